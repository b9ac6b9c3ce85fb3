/- The contracts of SameCard, DraftOk of both packages. -/
import Derived.Test.YtdddglihomchfaaGreatDraft1
import Derived.Test.YtdddglihomchfaaGreatStep2
import Derived.Deep.DeepCutAuto
import Derived.Deep.RegionHeld3
namespace Go.Proofs.YtdddglihomchfaaGreat
open Go.ChangeShapes Go.WideShapes Go.ChangeAt Go.RowKit
set_option linter.unusedVariables false
set_option maxRecDepth 10000

set_option maxHeartbeats 800000 in
theorem equal_str (B : Nat) (A1 A2 : Option Addr) (n1 n2 c1 c2 : Nat) (ss ts : List ByteArray) (w : World) (h1 : Strs w B A1 n1 ss) (h2 : Strs w B A2 n2 ts) :
    Calls Tryz.prog 171 #[.slice A1 n1 c1, .slice A2 n2 c2] w fun e w' => e = .returned (.bool (eqSS ss ts)) ∧ ∃ m, w' = w.drewN m := by
  have hl1 := h1.len
  have hl2 := h2.len
  have hn1 := h1.nb
  have hn2 := h2.nb
  by_cases hn : n1 = n2
  · subst hn
    have HL1 := Lib.hid hl1
    have HL2 := Lib.hid hl2
    clear hl1 hl2
    go_enter Tryz.func171, Tryz.ntmps171
    go_wp2
    go_loopw [13] (fun i wr => ∃ j m : Nat, j ≤ n1 ∧ i = .int .i64 j ∧ wr = w.drewN m ∧ Hid (ss.take j = ts.take j)) (fun i _ => n1 - (intOf i).toNat)
    case atStart => exact ⟨0, 0, Nat.zero_le _, rfl, rfl, by unfold Hid; simp⟩
    case round =>
      obtain ⟨j, m, hj, rfl, rfl, HT⟩ := hrel
      by_cases hlt : j < n1
      · obtain ⟨hk1, ad1, rfl, hab1, hc1, _⟩ := h1.at_ hlt
        obtain ⟨hk2, ad2, rfl, hab2, hc2, _⟩ := h2.at_ hlt
        by_cases he : ss[j] = ts[j]
        · have HE := Lib.hid he
          have hbq := beq_toList_true he
          clear he
          go_wp2
          go_quiet (fail)
          go_wp2
          go_roundw
          case rel =>
            refine ⟨j + 1, _, by omega, by go_num, by first | rfl | exact World.drewN_drewN _ _ _, ?_⟩
            unfold Hid
            rw [List.take_succ_eq_append_getElem hk1, List.take_succ_eq_append_getElem hk2, HT.out, HE.out]
          case measure => simp [intOf]; omega
        · have HF : Hid (eqSS ss ts = false) := by
            unfold Hid eqSS
            rw [decide_eq_false_iff_not]
            intro h; subst h; exact he rfl
          have hbq := beq_toList_false he
          clear he
          go_wp2
          go_quiet (fail)
          go_wp2
          go_ret
          exact ⟨ret_bool HF.out.symm, by first | exact ⟨_, rfl⟩ | exact ⟨_, World.drewN_drewN _ _ _⟩⟩
      · have HF : Hid (eqSS ss ts = true) := by
          unfold Hid eqSS
          rw [decide_eq_true_iff]
          have h := HT.out
          rw [List.take_of_length_le (by have := HL1.out; omega), List.take_of_length_le (by have := HL2.out; omega)] at h
          exact h
        go_wp2
        go_ret
        exact ⟨ret_bool HF.out.symm, by first | exact ⟨_, rfl⟩ | exact ⟨_, World.drewN_drewN _ _ _⟩⟩
  · have HF : Hid (eqSS ss ts = false) := by
      unfold Hid eqSS
      rw [decide_eq_false_iff_not]
      intro h; subst h; omega
    clear hl1 hl2
    go_enter Tryz.func171, Tryz.ntmps171
    go_wp2
    go_ret
    exact ⟨ret_bool HF.out.symm, ⟨0, rfl⟩⟩
theorem blk_other3 {w : World} {g g2 : Nat} {o : Obj} (h : w.heap[g]? = some o) (hne : g ≠ g2) (a b c : Value) : (((w.setCell ⟨g2, 0, none⟩ a).setCell ⟨g2, 1, none⟩ b).setCell ⟨g2, 2, none⟩ c).heap[g]? = some o :=
  (Below.heap_setCell _ _ _ _ hne).trans ((Below.heap_setCell _ _ _ _ hne).trans ((Below.heap_setCell _ _ _ _ hne).trans h))
def sameCard (d f d2 f2 : Int) (ss ts : List ByteArray) : Bool := (d == d2) && ((f == f2) && eqSS ss ts)

set_option maxHeartbeats 800000 in
theorem i_SameCard (d f d2 f2 : Int) (B : Nat) (A A2 : Option Addr) (n c n2 c2 : Nat) (ss ts : List ByteArray) (w : World) (hS : Strs w B A n ss) (hT : Strs w B A2 n2 ts) (hB : B ≤ w.heap.size) :
    Calls Tryz.prog 128 #[.agg #[.int .i64 d, .int .i64 f, .slice A n c], .agg #[.int .i64 d2, .int .i64 f2, .slice A2 n2 c2]] w fun e w' => e = .returned (.bool (sameCard d f d2 f2 ss ts)) ∧ Below w.heap.size w w' := by
  have hn := hS.nb
  have hn2 := hT.nb
  have hS2 := (hS.alloc hB (.cells #[.int .i64 d, .int .i64 f, .slice A n c] 34)).alloc (by simp; omega) (.cells #[.int .i64 d2, .int .i64 f2, .slice A2 n2 c2] 34)
  have hT2 := (hT.alloc hB (.cells #[.int .i64 d, .int .i64 f, .slice A n c] 34)).alloc (by simp; omega) (.cells #[.int .i64 d2, .int .i64 f2, .slice A2 n2 c2] 34)
  have arm := fun (W : World) (h1 : Strs W B A n ss) (h2 : Strs W B A2 n2 ts) => equal_str B A A2 n n2 c c2 ss ts W h1 h2
  have ARM := hide arm
  clear arm
  unfold sameCard
  cases h3 : (d == d2)
  · go_enter Tryz.func128, Tryz.ntmps128
    go_wp2
    go_ret
    exact ⟨rfl, (by repeat (first | (with_reducible exact Below.refl _ _) | (with_reducible assumption) | (with_reducible exact (‹_ ∧ _ ∧ Below _ _ _›).2.2) | (with_reducible refine below_drewN ?_ _) | (with_reducible refine Below.drew ?_) | ((with_reducible refine Below.alloc ?_ ?hsd _); (case hsd => (first | exact Nat.le_refl _ | (simp; done) | omega | (simp; omega) | exact (‹_ ∧ _ ∧ Below _ _ _›).2.2.size))) | ((with_reducible refine Below.setCell ?_ ?hsd _); (case hsd => (first | exact Nat.le_refl _ | (simp; done) | omega | (simp; omega) | exact (‹_ ∧ _ ∧ Below _ _ _›).2.2.size))) | ((with_reducible refine Below.trans ?_ (Below.mono (by with_reducible assumption) ?hsd)); (case hsd => (first | exact Nat.le_refl _ | (simp; done) | omega | (simp; omega) | exact (‹_ ∧ _ ∧ Below _ _ _›).2.2.size))) | exact Below.refl _ _ | assumption | exact (‹_ ∧ _ ∧ Below _ _ _›).2.2 | refine below_drewN ?_ _ | refine Below.drew ?_ | refine Below.alloc ?_ (by first | exact Nat.le_refl _ | (simp; done) | omega | (simp; omega) | exact (‹_ ∧ _ ∧ Below _ _ _›).2.2.size) _ | refine Below.setCell ?_ (by first | exact Nat.le_refl _ | (simp; done) | omega | (simp; omega) | exact (‹_ ∧ _ ∧ Below _ _ _›).2.2.size) _ | refine Below.trans ?_ (Below.mono (by assumption) (by first | exact Nat.le_refl _ | (simp; done) | omega | (simp; omega) | exact (‹_ ∧ _ ∧ Below _ _ _›).2.2.size))))⟩
  · cases h4 : (f == f2)
    · go_enter Tryz.func128, Tryz.ntmps128
      go_wp2
      go_ret
      exact ⟨rfl, (by repeat (first | (with_reducible exact Below.refl _ _) | (with_reducible assumption) | (with_reducible exact (‹_ ∧ _ ∧ Below _ _ _›).2.2) | (with_reducible refine below_drewN ?_ _) | (with_reducible refine Below.drew ?_) | ((with_reducible refine Below.alloc ?_ ?hsd _); (case hsd => (first | exact Nat.le_refl _ | (simp; done) | omega | (simp; omega) | exact (‹_ ∧ _ ∧ Below _ _ _›).2.2.size))) | ((with_reducible refine Below.setCell ?_ ?hsd _); (case hsd => (first | exact Nat.le_refl _ | (simp; done) | omega | (simp; omega) | exact (‹_ ∧ _ ∧ Below _ _ _›).2.2.size))) | ((with_reducible refine Below.trans ?_ (Below.mono (by with_reducible assumption) ?hsd)); (case hsd => (first | exact Nat.le_refl _ | (simp; done) | omega | (simp; omega) | exact (‹_ ∧ _ ∧ Below _ _ _›).2.2.size))) | exact Below.refl _ _ | assumption | exact (‹_ ∧ _ ∧ Below _ _ _›).2.2 | refine below_drewN ?_ _ | refine Below.drew ?_ | refine Below.alloc ?_ (by first | exact Nat.le_refl _ | (simp; done) | omega | (simp; omega) | exact (‹_ ∧ _ ∧ Below _ _ _›).2.2.size) _ | refine Below.setCell ?_ (by first | exact Nat.le_refl _ | (simp; done) | omega | (simp; omega) | exact (‹_ ∧ _ ∧ Below _ _ _›).2.2.size) _ | refine Below.trans ?_ (Below.mono (by assumption) (by first | exact Nat.le_refl _ | (simp; done) | omega | (simp; omega) | exact (‹_ ∧ _ ∧ Below _ _ _›).2.2.size))))⟩
    · go_enter Tryz.func128, Tryz.ntmps128
      go_wp2_with (go_at_call 171; refine (unhide ARM _ hS2 hT2).mono ?_; rintro e w' ⟨rfl, m, rfl⟩)
      go_ret
      exact ⟨ret_bool (by simp), (by repeat (first | (with_reducible exact Below.refl _ _) | (with_reducible assumption) | (with_reducible exact (‹_ ∧ _ ∧ Below _ _ _›).2.2) | (with_reducible refine below_drewN ?_ _) | (with_reducible refine Below.drew ?_) | ((with_reducible refine Below.alloc ?_ ?hsd _); (case hsd => (first | exact Nat.le_refl _ | (simp; done) | omega | (simp; omega) | exact (‹_ ∧ _ ∧ Below _ _ _›).2.2.size))) | ((with_reducible refine Below.setCell ?_ ?hsd _); (case hsd => (first | exact Nat.le_refl _ | (simp; done) | omega | (simp; omega) | exact (‹_ ∧ _ ∧ Below _ _ _›).2.2.size))) | ((with_reducible refine Below.trans ?_ (Below.mono (by with_reducible assumption) ?hsd)); (case hsd => (first | exact Nat.le_refl _ | (simp; done) | omega | (simp; omega) | exact (‹_ ∧ _ ∧ Below _ _ _›).2.2.size))) | exact Below.refl _ _ | assumption | exact (‹_ ∧ _ ∧ Below _ _ _›).2.2 | refine below_drewN ?_ _ | refine Below.drew ?_ | refine Below.alloc ?_ (by first | exact Nat.le_refl _ | (simp; done) | omega | (simp; omega) | exact (‹_ ∧ _ ∧ Below _ _ _›).2.2.size) _ | refine Below.setCell ?_ (by first | exact Nat.le_refl _ | (simp; done) | omega | (simp; omega) | exact (‹_ ∧ _ ∧ Below _ _ _›).2.2.size) _ | refine Below.trans ?_ (Below.mono (by assumption) (by first | exact Nat.le_refl _ | (simp; done) | omega | (simp; omega) | exact (‹_ ∧ _ ∧ Below _ _ _›).2.2.size))))⟩
set_option maxHeartbeats 1600000 in
theorem s_SameCard (d f d2 f2 : Int) (B : Nat) (A A2 : Option Addr) (n c n2 c2 : Nat) (ss ts : List ByteArray) (w : World) (hS : Strs w B A n ss) (hT : Strs w B A2 n2 ts) (hB : B ≤ w.heap.size) :
    Calls Tryz.prog 120 #[.agg #[.int .i64 d, .int .i64 f, .slice A n c], .agg #[.int .i64 d2, .int .i64 f2, .slice A2 n2 c2]] w fun e w' => e = .returned (.bool (sameCard d f d2 f2 ss ts)) ∧ Below w.heap.size w w' := by
  have hn := hS.nb
  have hn2 := hT.nb
  have hS2 := (hS.alloc hB (.cells #[.int .i64 d, .int .i64 f, .slice A n c] 34)).alloc (by simp; omega) (.cells #[.int .i64 d2, .int .i64 f2, .slice A2 n2 c2] 34)
  have hT2 := (hT.alloc hB (.cells #[.int .i64 d, .int .i64 f, .slice A n c] 34)).alloc (by simp; omega) (.cells #[.int .i64 d2, .int .i64 f2, .slice A2 n2 c2] 34)
  have hl := hS.len
  have hl2 := hT.len
  have hnq : (n : Int) = n2 → ss.length = ts.length := fun h => by omega
  have hnn : ¬ (n : Int) = n2 → eqSS ss ts = false := fun h => by unfold eqSS; rw [decide_eq_false_iff_not]; intro h2; subst h2; omega
  have HNN := hide hnn
  have HL := Lib.hid hl
  have HL2 := Lib.hid hl2
  clear hl hl2 hnq hnn
  unfold sameCard
  cases h3 : (d == d2)
  · have e3 : (d != d2) = true := by simpa using h3
    go_enter Tryz.func120, Tryz.ntmps120
    go_wp2
    go_ret
    exact ⟨rfl, (by repeat (first | (with_reducible exact Below.refl _ _) | (with_reducible assumption) | (with_reducible exact (‹_ ∧ _ ∧ Below _ _ _›).2.2) | (with_reducible refine below_drewN ?_ _) | (with_reducible refine Below.drew ?_) | ((with_reducible refine Below.alloc ?_ ?hsd _); (case hsd => (first | exact Nat.le_refl _ | (simp; done) | omega | (simp; omega) | exact (‹_ ∧ _ ∧ Below _ _ _›).2.2.size))) | ((with_reducible refine Below.setCell ?_ ?hsd _); (case hsd => (first | exact Nat.le_refl _ | (simp; done) | omega | (simp; omega) | exact (‹_ ∧ _ ∧ Below _ _ _›).2.2.size))) | ((with_reducible refine Below.trans ?_ (Below.mono (by with_reducible assumption) ?hsd)); (case hsd => (first | exact Nat.le_refl _ | (simp; done) | omega | (simp; omega) | exact (‹_ ∧ _ ∧ Below _ _ _›).2.2.size))) | exact Below.refl _ _ | assumption | exact (‹_ ∧ _ ∧ Below _ _ _›).2.2 | refine below_drewN ?_ _ | refine Below.drew ?_ | refine Below.alloc ?_ (by first | exact Nat.le_refl _ | (simp; done) | omega | (simp; omega) | exact (‹_ ∧ _ ∧ Below _ _ _›).2.2.size) _ | refine Below.setCell ?_ (by first | exact Nat.le_refl _ | (simp; done) | omega | (simp; omega) | exact (‹_ ∧ _ ∧ Below _ _ _›).2.2.size) _ | refine Below.trans ?_ (Below.mono (by assumption) (by first | exact Nat.le_refl _ | (simp; done) | omega | (simp; omega) | exact (‹_ ∧ _ ∧ Below _ _ _›).2.2.size))))⟩
  · have e3 : (d != d2) = false := by simpa using h3
    cases h4 : (f == f2)
    · have e4 : (f != f2) = true := by simpa using h4
      go_enter Tryz.func120, Tryz.ntmps120
      go_wp2
      go_ret
      exact ⟨rfl, (by repeat (first | (with_reducible exact Below.refl _ _) | (with_reducible assumption) | (with_reducible exact (‹_ ∧ _ ∧ Below _ _ _›).2.2) | (with_reducible refine below_drewN ?_ _) | (with_reducible refine Below.drew ?_) | ((with_reducible refine Below.alloc ?_ ?hsd _); (case hsd => (first | exact Nat.le_refl _ | (simp; done) | omega | (simp; omega) | exact (‹_ ∧ _ ∧ Below _ _ _›).2.2.size))) | ((with_reducible refine Below.setCell ?_ ?hsd _); (case hsd => (first | exact Nat.le_refl _ | (simp; done) | omega | (simp; omega) | exact (‹_ ∧ _ ∧ Below _ _ _›).2.2.size))) | ((with_reducible refine Below.trans ?_ (Below.mono (by with_reducible assumption) ?hsd)); (case hsd => (first | exact Nat.le_refl _ | (simp; done) | omega | (simp; omega) | exact (‹_ ∧ _ ∧ Below _ _ _›).2.2.size))) | exact Below.refl _ _ | assumption | exact (‹_ ∧ _ ∧ Below _ _ _›).2.2 | refine below_drewN ?_ _ | refine Below.drew ?_ | refine Below.alloc ?_ (by first | exact Nat.le_refl _ | (simp; done) | omega | (simp; omega) | exact (‹_ ∧ _ ∧ Below _ _ _›).2.2.size) _ | refine Below.setCell ?_ (by first | exact Nat.le_refl _ | (simp; done) | omega | (simp; omega) | exact (‹_ ∧ _ ∧ Below _ _ _›).2.2.size) _ | refine Below.trans ?_ (Below.mono (by assumption) (by first | exact Nat.le_refl _ | (simp; done) | omega | (simp; omega) | exact (‹_ ∧ _ ∧ Below _ _ _›).2.2.size))))⟩
    · have e4 : (f != f2) = false := by simpa using h4
      cases h5 : ((n : Int) == (n2 : Int))
      · have HF := Lib.hid (unhide HNN (by simpa using h5))
        have e5 : ((n : Int) != (n2 : Int)) = true := by simpa using h5
        go_enter Tryz.func120, Tryz.ntmps120
        go_wp2
        go_ret
        exact ⟨ret_bool (by rw [HF.out]; rfl), (by repeat (first | (with_reducible exact Below.refl _ _) | (with_reducible assumption) | (with_reducible exact (‹_ ∧ _ ∧ Below _ _ _›).2.2) | (with_reducible refine below_drewN ?_ _) | (with_reducible refine Below.drew ?_) | ((with_reducible refine Below.alloc ?_ ?hsd _); (case hsd => (first | exact Nat.le_refl _ | (simp; done) | omega | (simp; omega) | exact (‹_ ∧ _ ∧ Below _ _ _›).2.2.size))) | ((with_reducible refine Below.setCell ?_ ?hsd _); (case hsd => (first | exact Nat.le_refl _ | (simp; done) | omega | (simp; omega) | exact (‹_ ∧ _ ∧ Below _ _ _›).2.2.size))) | ((with_reducible refine Below.trans ?_ (Below.mono (by with_reducible assumption) ?hsd)); (case hsd => (first | exact Nat.le_refl _ | (simp; done) | omega | (simp; omega) | exact (‹_ ∧ _ ∧ Below _ _ _›).2.2.size))) | exact Below.refl _ _ | assumption | exact (‹_ ∧ _ ∧ Below _ _ _›).2.2 | refine below_drewN ?_ _ | refine Below.drew ?_ | refine Below.alloc ?_ (by first | exact Nat.le_refl _ | (simp; done) | omega | (simp; omega) | exact (‹_ ∧ _ ∧ Below _ _ _›).2.2.size) _ | refine Below.setCell ?_ (by first | exact Nat.le_refl _ | (simp; done) | omega | (simp; omega) | exact (‹_ ∧ _ ∧ Below _ _ _›).2.2.size) _ | refine Below.trans ?_ (Below.mono (by assumption) (by first | exact Nat.le_refl _ | (simp; done) | omega | (simp; omega) | exact (‹_ ∧ _ ∧ Below _ _ _›).2.2.size))))⟩
      · have hni : (n : Int) = n2 := by simpa using h5
        have hnn : n = n2 := by omega
        clear hni
        subst hnn
        clear h5
        go_enter Tryz.func120, Tryz.ntmps120
        go_wp2
        go_loopw [5] (fun i wr => ∃ j m : Nat, j ≤ n ∧ i = .int .i64 j ∧ wr = ((w.alloc (.cells #[.int .i64 d, .int .i64 f, .slice A n c] 34)).alloc (.cells #[.int .i64 d2, .int .i64 f2, .slice A2 n c2] 34)).drewN m ∧ Hid (ss.take j = ts.take j)) (fun i _ => n - (intOf i).toNat)
        case atStart => exact ⟨0, 0, Nat.zero_le _, rfl, rfl, by unfold Hid; simp⟩
        case round =>
          obtain ⟨j, m, hj, rfl, rfl, HT⟩ := hrel
          by_cases hlt : j < n
          · obtain ⟨hk1, ad1, rfl, hab1, hc1, _⟩ := hS.at_ hlt
            obtain ⟨hk2, ad2, rfl, hab2, hc2, _⟩ := hT.at_ hlt
            have hcc1 : ∀ o p : Obj, ((w.alloc o).alloc p).cell? (ad1.add j) = some (.string ss[j]) := fun o p => by
              rw [World.cell?_alloc_lt _ _ _ (by rw [block_of_add]; simp; omega), World.cell?_alloc_lt _ _ _ (by rw [block_of_add]; omega)]; exact hc1
            have hcc2 : ∀ o p : Obj, ((w.alloc o).alloc p).cell? (ad2.add j) = some (.string ts[j]) := fun o p => by
              rw [World.cell?_alloc_lt _ _ _ (by rw [block_of_add]; simp; omega), World.cell?_alloc_lt _ _ _ (by rw [block_of_add]; omega)]; exact hc2
            by_cases he : ss[j] = ts[j]
            · have HE := Lib.hid he
              have hbq := beq_toList_true he
              clear he
              go_wp2
              go_quiet (fail)
              go_wp2
              go_roundw
              case rel =>
                refine ⟨j + 1, _, by omega, by go_num, by first | rfl | exact World.drewN_drewN _ _ _, ?_⟩
                unfold Hid
                rw [List.take_succ_eq_append_getElem hk1, List.take_succ_eq_append_getElem hk2, HT.out, HE.out]
              case measure => simp [intOf]; omega
            · have HF : Hid (eqSS ss ts = false) := by
                unfold Hid eqSS
                rw [decide_eq_false_iff_not]
                intro h; subst h; exact he rfl
              have hbq := beq_toList_false he
              clear he
              go_wp2
              go_quiet (fail)
              go_wp2
              go_ret
              exact ⟨ret_bool (by rw [HF.out]; rfl), (by repeat (first | (with_reducible exact Below.refl _ _) | (with_reducible assumption) | (with_reducible exact (‹_ ∧ _ ∧ Below _ _ _›).2.2) | (with_reducible refine below_drewN ?_ _) | (with_reducible refine Below.drew ?_) | ((with_reducible refine Below.alloc ?_ ?hsd _); (case hsd => (first | exact Nat.le_refl _ | (simp; done) | omega | (simp; omega) | exact (‹_ ∧ _ ∧ Below _ _ _›).2.2.size))) | ((with_reducible refine Below.setCell ?_ ?hsd _); (case hsd => (first | exact Nat.le_refl _ | (simp; done) | omega | (simp; omega) | exact (‹_ ∧ _ ∧ Below _ _ _›).2.2.size))) | ((with_reducible refine Below.trans ?_ (Below.mono (by with_reducible assumption) ?hsd)); (case hsd => (first | exact Nat.le_refl _ | (simp; done) | omega | (simp; omega) | exact (‹_ ∧ _ ∧ Below _ _ _›).2.2.size))) | exact Below.refl _ _ | assumption | exact (‹_ ∧ _ ∧ Below _ _ _›).2.2 | refine below_drewN ?_ _ | refine Below.drew ?_ | refine Below.alloc ?_ (by first | exact Nat.le_refl _ | (simp; done) | omega | (simp; omega) | exact (‹_ ∧ _ ∧ Below _ _ _›).2.2.size) _ | refine Below.setCell ?_ (by first | exact Nat.le_refl _ | (simp; done) | omega | (simp; omega) | exact (‹_ ∧ _ ∧ Below _ _ _›).2.2.size) _ | refine Below.trans ?_ (Below.mono (by assumption) (by first | exact Nat.le_refl _ | (simp; done) | omega | (simp; omega) | exact (‹_ ∧ _ ∧ Below _ _ _›).2.2.size))))⟩
          · have HF : Hid (eqSS ss ts = true) := by
              unfold Hid eqSS
              rw [decide_eq_true_iff]
              have h := HT.out
              rw [List.take_of_length_le (by have := HL.out; omega), List.take_of_length_le (by have := HL2.out; omega)] at h
              exact h
            go_wp2
            go_ret
            exact ⟨ret_bool (by rw [HF.out]; rfl), (by repeat (first | (with_reducible exact Below.refl _ _) | (with_reducible assumption) | (with_reducible exact (‹_ ∧ _ ∧ Below _ _ _›).2.2) | (with_reducible refine below_drewN ?_ _) | (with_reducible refine Below.drew ?_) | ((with_reducible refine Below.alloc ?_ ?hsd _); (case hsd => (first | exact Nat.le_refl _ | (simp; done) | omega | (simp; omega) | exact (‹_ ∧ _ ∧ Below _ _ _›).2.2.size))) | ((with_reducible refine Below.setCell ?_ ?hsd _); (case hsd => (first | exact Nat.le_refl _ | (simp; done) | omega | (simp; omega) | exact (‹_ ∧ _ ∧ Below _ _ _›).2.2.size))) | ((with_reducible refine Below.trans ?_ (Below.mono (by with_reducible assumption) ?hsd)); (case hsd => (first | exact Nat.le_refl _ | (simp; done) | omega | (simp; omega) | exact (‹_ ∧ _ ∧ Below _ _ _›).2.2.size))) | exact Below.refl _ _ | assumption | exact (‹_ ∧ _ ∧ Below _ _ _›).2.2 | refine below_drewN ?_ _ | refine Below.drew ?_ | refine Below.alloc ?_ (by first | exact Nat.le_refl _ | (simp; done) | omega | (simp; omega) | exact (‹_ ∧ _ ∧ Below _ _ _›).2.2.size) _ | refine Below.setCell ?_ (by first | exact Nat.le_refl _ | (simp; done) | omega | (simp; omega) | exact (‹_ ∧ _ ∧ Below _ _ _›).2.2.size) _ | refine Below.trans ?_ (Below.mono (by assumption) (by first | exact Nat.le_refl _ | (simp; done) | omega | (simp; omega) | exact (‹_ ∧ _ ∧ Below _ _ _›).2.2.size))))⟩

/-- the strips behind some steps on -/
def runSteps (d f : Int) : List PStep → List ByteArray → Option (List ByteArray)
  | [], ss => some ss
  | s :: l, ss => if (stepRes true d f ss s.K s.F s.L s.T s.I s.b s.a).2 = true then runSteps d f l (stepRes true d f ss s.K s.F s.L s.T s.I s.b s.a).1 else none
def draftOk (D : PDraft) : Bool :=
  (cardOk D.d1 D.f1 D.ss1 && decide (D.st.length ≤ 40)) && match runSteps D.d1 D.f1 D.st D.ss1 with | some ss => sameCard D.d1 D.f1 D.d2 D.f2 ss D.ss2 | none => false
theorem runSteps_drop {d f : Int} {ss : List ByteArray} {l : List PStep} {k : Nat} (h : k < l.length) : runSteps d f (l.drop k) ss =
    if (stepRes true d f ss l[k].K l[k].F l[k].L l[k].T l[k].I l[k].b l[k].a).2 = true then runSteps d f (l.drop (k + 1)) (stepRes true d f ss l[k].K l[k].F l[k].L l[k].T l[k].I l[k].b l[k].a).1 else none := by
  rw [List.drop_eq_getElem_cons h]; rfl
theorem draftOk_no1 {D : PDraft} (h : cardOk D.d1 D.f1 D.ss1 = false) : draftOk D = false := by unfold draftOk; rw [h]; rfl
theorem draftOk_no2 {D : PDraft} (h : ¬ D.st.length ≤ 40) : draftOk D = false := by unfold draftOk; rw [decide_eq_false h]; simp
theorem draftOk_none {D : PDraft} (h : runSteps D.d1 D.f1 D.st D.ss1 = none) : draftOk D = false := by unfold draftOk; rw [h]; simp
theorem draftOk_some {D : PDraft} {ss : List ByteArray} (h1 : cardOk D.d1 D.f1 D.ss1 = true) (h2 : D.st.length ≤ 40) (h : runSteps D.d1 D.f1 D.st D.ss1 = some ss) : draftOk D = sameCard D.d1 D.f1 D.d2 D.f2 ss D.ss2 := by unfold draftOk; rw [h, h1, decide_eq_true h2]; rfl

set_option maxHeartbeats 6000000 in
theorem i_DraftOk (D : PDraft) (B : Nat) (A1 A2 A3 : Option Addr) (c1 c2 c3 : Nat) (w : World) (hS : RdDraft w B A1 A2 A3 D) (hB : B ≤ w.heap.size) :
    Calls Tryz.prog 69 #[.agg (draftV D A1 c1 A2 c2 A3 c3)] w fun e w' => e = .returned (.bool (draftOk D)) ∧ Below w.heap.size w w' := by
  obtain ⟨d1, f1, ss1, d2, f2, ss2, st⟩ := D
  obtain ⟨h1, h2, h3⟩ := hS
  simp only at h1 h2 h3
  have hp1 := draftOk_no1 (D := ⟨d1, f1, ss1, d2, f2, ss2, st⟩)
  have hp2 := draftOk_no2 (D := ⟨d1, f1, ss1, d2, f2, ss2, st⟩)
  have hp3 := draftOk_none (D := ⟨d1, f1, ss1, d2, f2, ss2, st⟩)
  have hp4 := fun ss => draftOk_some (D := ⟨d1, f1, ss1, d2, f2, ss2, st⟩) (ss := ss)
  simp only at hp1 hp2 hp3 hp4
  generalize hr : draftOk ⟨d1, f1, ss1, d2, f2, ss2, st⟩ = r at *
  clear hr
  unfold draftV
  simp only
  have hn1 := h1.nb
  have hn2 := h2.nb
  have hn3 := h3.nb
  cases hck : cardOk d1 f1 ss1
  · have HP := Lib.hid (hp1 hck)
    clear hp1 hp2 hp3 hp4
    go_enter Tryz.func69, Tryz.ntmps69
    go_wp2_with (first | (go_at_call 126; refine (i_CardOk _ _ _ _ _ ss1 _ ((h1.alloc hB (.cells #[.int .i64 d1, .int .i64 f1, .slice A1 ss1.length c1, .int .i64 d2, .int .i64 f2, .slice A2 ss2.length c2, .slice A3 st.length c3] 37)).more (by simp; omega))).mono ?_; rw [hck]; rintro e w1 ⟨rfl, hb1⟩; obtain ⟨hcb1, hfb1⟩ := bcell hb1; have hz_w1_0 : w.heap.size < w1.heap.size := (by have hzz := hb1.size; (try simp at hzz); omega); have hy_w1_0 := Nat.le_of_lt hz_w1_0))
    go_ret
    exact ⟨ret_bool HP.out.symm, (by repeat (first | (with_reducible exact Below.refl _ _) | (with_reducible assumption) | (with_reducible exact (‹_ ∧ _ ∧ Below _ _ _›).2.2) | (with_reducible refine below_drewN ?_ _) | (with_reducible refine Below.drew ?_) | ((with_reducible refine Below.alloc ?_ ?hsd _); (case hsd => (first | exact Nat.le_refl _ | (simp; done) | omega | (simp; omega) | exact (‹_ ∧ _ ∧ Below _ _ _›).2.2.size))) | ((with_reducible refine Below.setCell ?_ ?hsd _); (case hsd => (first | exact Nat.le_refl _ | (simp; done) | omega | (simp; omega) | exact (‹_ ∧ _ ∧ Below _ _ _›).2.2.size))) | ((with_reducible refine Below.trans ?_ (Below.mono (by with_reducible assumption) ?hsd)); (case hsd => (first | exact Nat.le_refl _ | (simp; done) | omega | (simp; omega) | exact (‹_ ∧ _ ∧ Below _ _ _›).2.2.size))) | exact Below.refl _ _ | assumption | exact (‹_ ∧ _ ∧ Below _ _ _›).2.2 | refine below_drewN ?_ _ | refine Below.drew ?_ | refine Below.alloc ?_ (by first | exact Nat.le_refl _ | (simp; done) | omega | (simp; omega) | exact (‹_ ∧ _ ∧ Below _ _ _›).2.2.size) _ | refine Below.setCell ?_ (by first | exact Nat.le_refl _ | (simp; done) | omega | (simp; omega) | exact (‹_ ∧ _ ∧ Below _ _ _›).2.2.size) _ | refine Below.trans ?_ (Below.mono (by assumption) (by first | exact Nat.le_refl _ | (simp; done) | omega | (simp; omega) | exact (‹_ ∧ _ ∧ Below _ _ _›).2.2.size))))⟩
  · by_cases h40 : st.length ≤ 40
    · have HP3 := hide hp3
      have HP4 := hide (hp4 · hck h40)
      clear hp1 hp2 hp3 hp4
      go_enter Tryz.func69, Tryz.ntmps69
      go_wp2_with (first | (go_at_call 126; refine (i_CardOk _ _ _ _ _ ss1 _ ((h1.alloc hB (.cells #[.int .i64 d1, .int .i64 f1, .slice A1 ss1.length c1, .int .i64 d2, .int .i64 f2, .slice A2 ss2.length c2, .slice A3 st.length c3] 37)).more (by simp; omega))).mono ?_; rw [hck]; rintro e w1 ⟨rfl, hb1⟩; obtain ⟨hcb1, hfb1⟩ := bcell hb1; have hz_w1_0 : w.heap.size < w1.heap.size := (by have hzz := hb1.size; (try simp at hzz); omega); have hy_w1_0 := Nat.le_of_lt hz_w1_0))
      have hkd := blk_next (blk_new w (.cells #[.int .i64 d1, .int .i64 f1, .slice A1 ss1.length c1, .int .i64 d2, .int .i64 f2, .slice A2 ss2.length c2, .slice A3 st.length c3] 37)) hb1
      have hw1s := hz_w1_0
      have hbW : Below w.heap.size w (w1.alloc (.cells #[.int .i64 d1, .int .i64 f1, .slice A1 ss1.length c1] 34)) := (by repeat (first | (with_reducible exact Below.refl _ _) | (with_reducible assumption) | (with_reducible exact (‹_ ∧ _ ∧ Below _ _ _›).2.2) | (with_reducible refine below_drewN ?_ _) | (with_reducible refine Below.drew ?_) | ((with_reducible refine Below.alloc ?_ ?hsd _); (case hsd => (first | exact Nat.le_refl _ | (simp; done) | omega | (simp; omega) | exact (‹_ ∧ _ ∧ Below _ _ _›).2.2.size))) | ((with_reducible refine Below.setCell ?_ ?hsd _); (case hsd => (first | exact Nat.le_refl _ | (simp; done) | omega | (simp; omega) | exact (‹_ ∧ _ ∧ Below _ _ _›).2.2.size))) | ((with_reducible refine Below.trans ?_ (Below.mono (by with_reducible assumption) ?hsd)); (case hsd => (first | exact Nat.le_refl _ | (simp; done) | omega | (simp; omega) | exact (‹_ ∧ _ ∧ Below _ _ _›).2.2.size))) | exact Below.refl _ _ | assumption | exact (‹_ ∧ _ ∧ Below _ _ _›).2.2 | refine below_drewN ?_ _ | refine Below.drew ?_ | refine Below.alloc ?_ (by first | exact Nat.le_refl _ | (simp; done) | omega | (simp; omega) | exact (‹_ ∧ _ ∧ Below _ _ _›).2.2.size) _ | refine Below.setCell ?_ (by first | exact Nat.le_refl _ | (simp; done) | omega | (simp; omega) | exact (‹_ ∧ _ ∧ Below _ _ _›).2.2.size) _ | refine Below.trans ?_ (Below.mono (by assumption) (by first | exact Nat.le_refl _ | (simp; done) | omega | (simp; omega) | exact (‹_ ∧ _ ∧ Below _ _ _›).2.2.size))))
      have hkn := blk_new w1 (.cells #[.int .i64 d1, .int .i64 f1, .slice A1 ss1.length c1] 34)
      have hkd2 := blk_alloc hkd (.cells #[.int .i64 d1, .int .i64 f1, .slice A1 ss1.length c1] 34)
      have hS0 : Strs (w1.alloc (.cells #[.int .i64 d1, .int .i64 f1, .slice A1 ss1.length c1] 34)) (w1.alloc (.cells #[.int .i64 d1, .int .i64 f1, .slice A1 ss1.length c1] 34)).heap.size A1 ss1.length ss1 := (((h1.alloc hB (.cells #[.int .i64 d1, .int .i64 f1, .slice A1 ss1.length c1, .int .i64 d2, .int .i64 f2, .slice A2 ss2.length c2, .slice A3 st.length c3] 37)).below (hb1.mono (by simp; omega))).alloc (by omega) (.cells #[.int .i64 d1, .int .i64 f1, .slice A1 ss1.length c1] 34)).more (by simp; omega)
      have hg4 : w1.heap.size < (w1.alloc (.cells #[.int .i64 d1, .int .i64 f1, .slice A1 ss1.length c1] 34)).heap.size := by simp
      generalize w1.alloc (.cells #[.int .i64 d1, .int .i64 f1, .slice A1 ss1.length c1] 34) = w5 at *
      have hwB : w.heap.size ≤ w5.heap.size := hbW.size
      go_loopw [23] (fun i wr => ∃ (k N : Nat) (A' : Option Addr) (c' : Nat) (sk : List ByteArray), k ≤ st.length ∧ N ≤ 16777216 ∧ i = .int .i64 k ∧ Hid (runSteps d1 f1 (st.drop k) sk = runSteps d1 f1 st ss1) ∧
          wr.heap[w1.heap.size]? = some (.cells #[.int .i64 d1, .int .i64 f1, .slice A' N c'] 34 (0, 0)) ∧ wr.heap[w.heap.size]? = some (.cells #[.int .i64 d1, .int .i64 f1, .slice A1 ss1.length c1, .int .i64 d2, .int .i64 f2, .slice A2 ss2.length c2, .slice A3 st.length c3] 37) ∧ Strs wr wr.heap.size A' N sk ∧ w5.heap.size ≤ wr.heap.size ∧ Below w.heap.size w wr) (fun i _ => st.length - (intOf i).toNat)
      case atStart => exact ⟨0, ss1.length, A1, c1, ss1, Nat.zero_le _, hn1, rfl, rfl, hkn, hkd2, hS0, Nat.le_refl _, hbW⟩
      case round =>
        obtain ⟨k, N, A', c', sk, hk, hN, rfl, HF, hblk, hkd3, hSk, hzw, hb⟩ := hrel
        obtain ⟨hx0, hx1, hx2, hxl⟩ := blk3 hblk
        obtain ⟨hd0, hd1, hd2, hd3, hd4, hd5, hd6, hdl⟩ := blk7 hkd3
        by_cases hlt : k < st.length
        · obtain ⟨hkl, ad, rfl, hab, hc0, hc1, hc2, hc3, hc4, hc5, hc6, hsb, hsa⟩ := (h3.below (hb.mono hB)).at_ hlt
          have hstep := runSteps_drop (d := d1) (f := f1) (ss := sk) (l := st) (k := k) hkl
          have HST := Lib.hid hstep
          clear hstep
          have hbo := stepRes_ok true d1 f1 sk st[k].K st[k].F st[k].L st[k].T st[k].I st[k].b st[k].a 16777216 (by have := hSk.len; omega) (by omega) hSk.sb hsb hsa
          have HBO := hide hbo
          clear hbo
          have hcon := fun (W : World) (h : Strs W wr.heap.size A' N sk) (hz : wr.heap.size ≤ W.heap.size) => i_StepOn d1 f1 wr.heap.size A' N c' sk st[k].K st[k].F st[k].L st[k].T st[k].I st[k].b st[k].a W h hz hsb hsa
          have HCON := hide hcon
          clear hcon hsb hsa
          generalize er : (stepRes true d1 f1 sk st[k].K st[k].F st[k].L st[k].T st[k].I st[k].b st[k].a).1 = sr at *
          generalize eb : (stepRes true d1 f1 sk st[k].K st[k].F st[k].L st[k].T st[k].I st[k].b st[k].a).2 = br at *
          clear er eb
          cases hbr : br
          · subst hbr
            have HP := Lib.hid (unhide HP3 (by rw [← HF.out, HST.out]; simp))
            go_wp2_with (first | (go_at_call 127; refine (unhide HCON _ (hSk.alloc (Nat.le_refl _) _) (by simp)).mono ?_; rintro e w7 ⟨A7, c7, rfl, ho7, hb7⟩; have hk7 := blk_next (blk_alloc hblk (.cells #[.int .i64 st[k].K, .int .i64 st[k].F, .int .i64 st[k].L, .int .i64 st[k].T, .int .i64 st[k].I, .string st[k].b, .string st[k].a] 65)) hb7; have hd7 := blk_next (blk_alloc hkd3 (.cells #[.int .i64 st[k].K, .int .i64 st[k].F, .int .i64 st[k].L, .int .i64 st[k].T, .int .i64 st[k].I, .string st[k].b, .string st[k].a] 65)) hb7; have hz7 := hb7.size; (try simp at hz7); obtain ⟨hv0, hv1, hv2, hvl⟩ := blk3 hk7; have hfv0 := (blk_cells hk7 0).2; have hfv1 := (blk_cells hk7 1).2; have hfv2 := (blk_cells hk7 2).2))
            go_ret
            exact ⟨ret_bool HP.out.symm, (by repeat (first | (with_reducible exact Below.refl _ _) | (with_reducible assumption) | (with_reducible exact (‹_ ∧ _ ∧ Below _ _ _›).2.2) | (with_reducible refine below_drewN ?_ _) | (with_reducible refine Below.drew ?_) | ((with_reducible refine Below.alloc ?_ ?hsd _); (case hsd => (first | exact Nat.le_refl _ | (simp; done) | omega | (simp; omega) | exact (‹_ ∧ _ ∧ Below _ _ _›).2.2.size))) | ((with_reducible refine Below.setCell ?_ ?hsd _); (case hsd => (first | exact Nat.le_refl _ | (simp; done) | omega | (simp; omega) | exact (‹_ ∧ _ ∧ Below _ _ _›).2.2.size))) | ((with_reducible refine Below.trans ?_ (Below.mono (by with_reducible assumption) ?hsd)); (case hsd => (first | exact Nat.le_refl _ | (simp; done) | omega | (simp; omega) | exact (‹_ ∧ _ ∧ Below _ _ _›).2.2.size))) | exact Below.refl _ _ | assumption | exact (‹_ ∧ _ ∧ Below _ _ _›).2.2 | refine below_drewN ?_ _ | refine Below.drew ?_ | refine Below.alloc ?_ (by first | exact Nat.le_refl _ | (simp; done) | omega | (simp; omega) | exact (‹_ ∧ _ ∧ Below _ _ _›).2.2.size) _ | refine Below.setCell ?_ (by first | exact Nat.le_refl _ | (simp; done) | omega | (simp; omega) | exact (‹_ ∧ _ ∧ Below _ _ _›).2.2.size) _ | refine Below.trans ?_ (Below.mono (by assumption) (by first | exact Nat.le_refl _ | (simp; done) | omega | (simp; omega) | exact (‹_ ∧ _ ∧ Below _ _ _›).2.2.size))))⟩
          · subst hbr
            have HF2 : Hid (runSteps d1 f1 (st.drop (k + 1)) sr = runSteps d1 f1 st ss1) := by unfold Hid; rw [← HF.out, HST.out]; simp
            go_wp2_with (first | (go_at_call 127; refine (unhide HCON _ (hSk.alloc (Nat.le_refl _) _) (by simp)).mono ?_; rintro e w7 ⟨A7, c7, rfl, ho7, hb7⟩; have hk7 := blk_next (blk_alloc hblk (.cells #[.int .i64 st[k].K, .int .i64 st[k].F, .int .i64 st[k].L, .int .i64 st[k].T, .int .i64 st[k].I, .string st[k].b, .string st[k].a] 65)) hb7; have hd7 := blk_next (blk_alloc hkd3 (.cells #[.int .i64 st[k].K, .int .i64 st[k].F, .int .i64 st[k].L, .int .i64 st[k].T, .int .i64 st[k].I, .string st[k].b, .string st[k].a] 65)) hb7; have hz7 := hb7.size; (try simp at hz7); obtain ⟨hv0, hv1, hv2, hvl⟩ := blk3 hk7; have hfv0 := (blk_cells hk7 0).2; have hfv1 := (blk_cells hk7 1).2; have hfv2 := (blk_cells hk7 2).2))
            have hS7 := strs_of_own ho7 (unhide HBO).1 (unhide HBO).2
            have hb7w : Below w.heap.size w w7 := (by repeat (first | (with_reducible exact Below.refl _ _) | (with_reducible assumption) | (with_reducible exact (‹_ ∧ _ ∧ Below _ _ _›).2.2) | (with_reducible refine below_drewN ?_ _) | (with_reducible refine Below.drew ?_) | ((with_reducible refine Below.alloc ?_ ?hsd _); (case hsd => (first | exact Nat.le_refl _ | (simp; done) | omega | (simp; omega) | exact (‹_ ∧ _ ∧ Below _ _ _›).2.2.size))) | ((with_reducible refine Below.setCell ?_ ?hsd _); (case hsd => (first | exact Nat.le_refl _ | (simp; done) | omega | (simp; omega) | exact (‹_ ∧ _ ∧ Below _ _ _›).2.2.size))) | ((with_reducible refine Below.trans ?_ (Below.mono (by with_reducible assumption) ?hsd)); (case hsd => (first | exact Nat.le_refl _ | (simp; done) | omega | (simp; omega) | exact (‹_ ∧ _ ∧ Below _ _ _›).2.2.size))) | exact Below.refl _ _ | assumption | exact (‹_ ∧ _ ∧ Below _ _ _›).2.2 | refine below_drewN ?_ _ | refine Below.drew ?_ | refine Below.alloc ?_ (by first | exact Nat.le_refl _ | (simp; done) | omega | (simp; omega) | exact (‹_ ∧ _ ∧ Below _ _ _›).2.2.size) _ | refine Below.setCell ?_ (by first | exact Nat.le_refl _ | (simp; done) | omega | (simp; omega) | exact (‹_ ∧ _ ∧ Below _ _ _›).2.2.size) _ | refine Below.trans ?_ (Below.mono (by assumption) (by first | exact Nat.le_refl _ | (simp; done) | omega | (simp; omega) | exact (‹_ ∧ _ ∧ Below _ _ _›).2.2.size))))
            have hSf : ∀ (u v x : Value) (o : Obj), Strs (((((w7.setCell ⟨w1.heap.size, 0, none⟩ u).setCell ⟨w1.heap.size, 1, none⟩ v).setCell ⟨w1.heap.size, 2, none⟩ x)).alloc o) ((((((w7.setCell ⟨w1.heap.size, 0, none⟩ u).setCell ⟨w1.heap.size, 1, none⟩ v).setCell ⟨w1.heap.size, 2, none⟩ x)).alloc o)).heap.size A7 sr.length sr := fun u v x o => strs_of_own ((own3_set ho7 hk7 (by decide) u v x).alloc o) (unhide HBO).1 (unhide HBO).2
            have HSF := hide hSf
            clear hSf
            go_roundw
            case rel => exact ⟨k + 1, sr.length, A7, c7, sr, by omega, (unhide HBO).1, by go_num, HF2, blk_alloc (blk3_set hk7 _ _ _) _, blk_alloc (blk_other3 hd7 (by omega) _ _ _) _, unhide HSF _ _ _ _, by simp [World.setCell]; omega, (by repeat (first | (with_reducible exact Below.refl _ _) | (with_reducible assumption) | (with_reducible exact (‹_ ∧ _ ∧ Below _ _ _›).2.2) | (with_reducible refine below_drewN ?_ _) | (with_reducible refine Below.drew ?_) | ((with_reducible refine Below.alloc ?_ ?hsd _); (case hsd => (first | exact Nat.le_refl _ | (simp; done) | omega | (simp; omega) | exact (‹_ ∧ _ ∧ Below _ _ _›).2.2.size))) | ((with_reducible refine Below.setCell ?_ ?hsd _); (case hsd => (first | exact Nat.le_refl _ | (simp; done) | omega | (simp; omega) | exact (‹_ ∧ _ ∧ Below _ _ _›).2.2.size))) | ((with_reducible refine Below.trans ?_ (Below.mono (by with_reducible assumption) ?hsd)); (case hsd => (first | exact Nat.le_refl _ | (simp; done) | omega | (simp; omega) | exact (‹_ ∧ _ ∧ Below _ _ _›).2.2.size))) | exact Below.refl _ _ | assumption | exact (‹_ ∧ _ ∧ Below _ _ _›).2.2 | refine below_drewN ?_ _ | refine Below.drew ?_ | refine Below.alloc ?_ (by first | exact Nat.le_refl _ | (simp; done) | omega | (simp; omega) | exact (‹_ ∧ _ ∧ Below _ _ _›).2.2.size) _ | refine Below.setCell ?_ (by first | exact Nat.le_refl _ | (simp; done) | omega | (simp; omega) | exact (‹_ ∧ _ ∧ Below _ _ _›).2.2.size) _ | refine Below.trans ?_ (Below.mono (by assumption) (by first | exact Nat.le_refl _ | (simp; done) | omega | (simp; omega) | exact (‹_ ∧ _ ∧ Below _ _ _›).2.2.size))))⟩
            case measure => simp [intOf]; omega
        · have hke : k = st.length := by omega
          have hd : st.drop k = [] := List.drop_eq_nil_of_le (by omega)
          have hfin : runSteps d1 f1 st ss1 = some sk := by rw [← HF.out, hd]; rfl
          have HP := Lib.hid (unhide HP4 _ hfin)
          clear hd hfin
          have hT2 := (h2.below (hb.mono hB)).more (by omega : B ≤ wr.heap.size)
          have hcon := i_SameCard d1 f1 d2 f2 wr.heap.size A' A2 N c' ss2.length c2 sk ss2
          have HCON := hide hcon
          clear hcon
          subst hke
          go_wp2_with (first | (go_at_call 128; refine (unhide HCON _ hSk hT2 (Nat.le_refl _)).mono ?_; rintro e w9 ⟨rfl, hb9⟩))
          go_ret
          exact ⟨ret_bool HP.out.symm, hb.trans (hb9.mono (by omega))⟩
    · have HP := Lib.hid (hp2 h40)
      clear hp1 hp2 hp3 hp4
      go_enter Tryz.func69, Tryz.ntmps69
      go_wp2_with (first | (go_at_call 126; refine (i_CardOk _ _ _ _ _ ss1 _ ((h1.alloc hB (.cells #[.int .i64 d1, .int .i64 f1, .slice A1 ss1.length c1, .int .i64 d2, .int .i64 f2, .slice A2 ss2.length c2, .slice A3 st.length c3] 37)).more (by simp; omega))).mono ?_; rw [hck]; rintro e w1 ⟨rfl, hb1⟩; obtain ⟨hcb1, hfb1⟩ := bcell hb1; have hz_w1_0 : w.heap.size < w1.heap.size := (by have hzz := hb1.size; (try simp at hzz); omega); have hy_w1_0 := Nat.le_of_lt hz_w1_0))
      go_ret
      exact ⟨ret_bool HP.out.symm, (by repeat (first | (with_reducible exact Below.refl _ _) | (with_reducible assumption) | (with_reducible exact (‹_ ∧ _ ∧ Below _ _ _›).2.2) | (with_reducible refine below_drewN ?_ _) | (with_reducible refine Below.drew ?_) | ((with_reducible refine Below.alloc ?_ ?hsd _); (case hsd => (first | exact Nat.le_refl _ | (simp; done) | omega | (simp; omega) | exact (‹_ ∧ _ ∧ Below _ _ _›).2.2.size))) | ((with_reducible refine Below.setCell ?_ ?hsd _); (case hsd => (first | exact Nat.le_refl _ | (simp; done) | omega | (simp; omega) | exact (‹_ ∧ _ ∧ Below _ _ _›).2.2.size))) | ((with_reducible refine Below.trans ?_ (Below.mono (by with_reducible assumption) ?hsd)); (case hsd => (first | exact Nat.le_refl _ | (simp; done) | omega | (simp; omega) | exact (‹_ ∧ _ ∧ Below _ _ _›).2.2.size))) | exact Below.refl _ _ | assumption | exact (‹_ ∧ _ ∧ Below _ _ _›).2.2 | refine below_drewN ?_ _ | refine Below.drew ?_ | refine Below.alloc ?_ (by first | exact Nat.le_refl _ | (simp; done) | omega | (simp; omega) | exact (‹_ ∧ _ ∧ Below _ _ _›).2.2.size) _ | refine Below.setCell ?_ (by first | exact Nat.le_refl _ | (simp; done) | omega | (simp; omega) | exact (‹_ ∧ _ ∧ Below _ _ _›).2.2.size) _ | refine Below.trans ?_ (Below.mono (by assumption) (by first | exact Nat.le_refl _ | (simp; done) | omega | (simp; omega) | exact (‹_ ∧ _ ∧ Below _ _ _›).2.2.size))))⟩
set_option maxHeartbeats 6000000 in
theorem s_DraftOk (D : PDraft) (B : Nat) (A1 A2 A3 : Option Addr) (c1 c2 c3 : Nat) (w : World) (hS : RdDraft w B A1 A2 A3 D) (hB : B ≤ w.heap.size) :
    Calls Tryz.prog 62 #[.agg (draftV D A1 c1 A2 c2 A3 c3)] w fun e w' => e = .returned (.bool (draftOk D)) ∧ Below w.heap.size w w' := by
  obtain ⟨d1, f1, ss1, d2, f2, ss2, st⟩ := D
  obtain ⟨h1, h2, h3⟩ := hS
  simp only at h1 h2 h3
  have hp1 := draftOk_no1 (D := ⟨d1, f1, ss1, d2, f2, ss2, st⟩)
  have hp2 := draftOk_no2 (D := ⟨d1, f1, ss1, d2, f2, ss2, st⟩)
  have hp3 := draftOk_none (D := ⟨d1, f1, ss1, d2, f2, ss2, st⟩)
  have hp4 := fun ss => draftOk_some (D := ⟨d1, f1, ss1, d2, f2, ss2, st⟩) (ss := ss)
  simp only at hp1 hp2 hp3 hp4
  generalize hr : draftOk ⟨d1, f1, ss1, d2, f2, ss2, st⟩ = r at *
  clear hr
  unfold draftV
  simp only
  have hn1 := h1.nb
  have hn2 := h2.nb
  have hn3 := h3.nb
  cases hck : cardOk d1 f1 ss1
  · have HP := Lib.hid (hp1 hck)
    clear hp1 hp2 hp3 hp4
    go_enter Tryz.func62, Tryz.ntmps62
    go_wp2_with (first | (go_at_call 118; refine (s_CardOk _ _ _ _ _ ss1 _ ((h1.alloc hB (.cells #[.int .i64 d1, .int .i64 f1, .slice A1 ss1.length c1, .int .i64 d2, .int .i64 f2, .slice A2 ss2.length c2, .slice A3 st.length c3] 37)).more (by simp; omega))).mono ?_; rw [hck]; rintro e w1 ⟨rfl, hb1⟩; obtain ⟨hcb1, hfb1⟩ := bcell hb1; have hz_w1_0 : w.heap.size < w1.heap.size := (by have hzz := hb1.size; (try simp at hzz); omega); have hy_w1_0 := Nat.le_of_lt hz_w1_0))
    go_ret
    exact ⟨ret_bool HP.out.symm, (by repeat (first | (with_reducible exact Below.refl _ _) | (with_reducible assumption) | (with_reducible exact (‹_ ∧ _ ∧ Below _ _ _›).2.2) | (with_reducible refine below_drewN ?_ _) | (with_reducible refine Below.drew ?_) | ((with_reducible refine Below.alloc ?_ ?hsd _); (case hsd => (first | exact Nat.le_refl _ | (simp; done) | omega | (simp; omega) | exact (‹_ ∧ _ ∧ Below _ _ _›).2.2.size))) | ((with_reducible refine Below.setCell ?_ ?hsd _); (case hsd => (first | exact Nat.le_refl _ | (simp; done) | omega | (simp; omega) | exact (‹_ ∧ _ ∧ Below _ _ _›).2.2.size))) | ((with_reducible refine Below.trans ?_ (Below.mono (by with_reducible assumption) ?hsd)); (case hsd => (first | exact Nat.le_refl _ | (simp; done) | omega | (simp; omega) | exact (‹_ ∧ _ ∧ Below _ _ _›).2.2.size))) | exact Below.refl _ _ | assumption | exact (‹_ ∧ _ ∧ Below _ _ _›).2.2 | refine below_drewN ?_ _ | refine Below.drew ?_ | refine Below.alloc ?_ (by first | exact Nat.le_refl _ | (simp; done) | omega | (simp; omega) | exact (‹_ ∧ _ ∧ Below _ _ _›).2.2.size) _ | refine Below.setCell ?_ (by first | exact Nat.le_refl _ | (simp; done) | omega | (simp; omega) | exact (‹_ ∧ _ ∧ Below _ _ _›).2.2.size) _ | refine Below.trans ?_ (Below.mono (by assumption) (by first | exact Nat.le_refl _ | (simp; done) | omega | (simp; omega) | exact (‹_ ∧ _ ∧ Below _ _ _›).2.2.size))))⟩
  · by_cases h40 : st.length ≤ 40
    · have HP3 := hide hp3
      have HP4 := hide (hp4 · hck h40)
      clear hp1 hp2 hp3 hp4
      go_enter Tryz.func62, Tryz.ntmps62
      go_wp2_with (first | (go_at_call 118; refine (s_CardOk _ _ _ _ _ ss1 _ ((h1.alloc hB (.cells #[.int .i64 d1, .int .i64 f1, .slice A1 ss1.length c1, .int .i64 d2, .int .i64 f2, .slice A2 ss2.length c2, .slice A3 st.length c3] 37)).more (by simp; omega))).mono ?_; rw [hck]; rintro e w1 ⟨rfl, hb1⟩; obtain ⟨hcb1, hfb1⟩ := bcell hb1; have hz_w1_0 : w.heap.size < w1.heap.size := (by have hzz := hb1.size; (try simp at hzz); omega); have hy_w1_0 := Nat.le_of_lt hz_w1_0))
      have hkd := blk_next (blk_new w (.cells #[.int .i64 d1, .int .i64 f1, .slice A1 ss1.length c1, .int .i64 d2, .int .i64 f2, .slice A2 ss2.length c2, .slice A3 st.length c3] 37)) hb1
      have hw1s := hz_w1_0
      have hbW : Below w.heap.size w (w1.alloc (.cells #[.int .i64 d1, .int .i64 f1, .slice A1 ss1.length c1] 34)) := (by repeat (first | (with_reducible exact Below.refl _ _) | (with_reducible assumption) | (with_reducible exact (‹_ ∧ _ ∧ Below _ _ _›).2.2) | (with_reducible refine below_drewN ?_ _) | (with_reducible refine Below.drew ?_) | ((with_reducible refine Below.alloc ?_ ?hsd _); (case hsd => (first | exact Nat.le_refl _ | (simp; done) | omega | (simp; omega) | exact (‹_ ∧ _ ∧ Below _ _ _›).2.2.size))) | ((with_reducible refine Below.setCell ?_ ?hsd _); (case hsd => (first | exact Nat.le_refl _ | (simp; done) | omega | (simp; omega) | exact (‹_ ∧ _ ∧ Below _ _ _›).2.2.size))) | ((with_reducible refine Below.trans ?_ (Below.mono (by with_reducible assumption) ?hsd)); (case hsd => (first | exact Nat.le_refl _ | (simp; done) | omega | (simp; omega) | exact (‹_ ∧ _ ∧ Below _ _ _›).2.2.size))) | exact Below.refl _ _ | assumption | exact (‹_ ∧ _ ∧ Below _ _ _›).2.2 | refine below_drewN ?_ _ | refine Below.drew ?_ | refine Below.alloc ?_ (by first | exact Nat.le_refl _ | (simp; done) | omega | (simp; omega) | exact (‹_ ∧ _ ∧ Below _ _ _›).2.2.size) _ | refine Below.setCell ?_ (by first | exact Nat.le_refl _ | (simp; done) | omega | (simp; omega) | exact (‹_ ∧ _ ∧ Below _ _ _›).2.2.size) _ | refine Below.trans ?_ (Below.mono (by assumption) (by first | exact Nat.le_refl _ | (simp; done) | omega | (simp; omega) | exact (‹_ ∧ _ ∧ Below _ _ _›).2.2.size))))
      have hkn := blk_new w1 (.cells #[.int .i64 d1, .int .i64 f1, .slice A1 ss1.length c1] 34)
      have hkd2 := blk_alloc hkd (.cells #[.int .i64 d1, .int .i64 f1, .slice A1 ss1.length c1] 34)
      have hS0 : Strs (w1.alloc (.cells #[.int .i64 d1, .int .i64 f1, .slice A1 ss1.length c1] 34)) (w1.alloc (.cells #[.int .i64 d1, .int .i64 f1, .slice A1 ss1.length c1] 34)).heap.size A1 ss1.length ss1 := (((h1.alloc hB (.cells #[.int .i64 d1, .int .i64 f1, .slice A1 ss1.length c1, .int .i64 d2, .int .i64 f2, .slice A2 ss2.length c2, .slice A3 st.length c3] 37)).below (hb1.mono (by simp; omega))).alloc (by omega) (.cells #[.int .i64 d1, .int .i64 f1, .slice A1 ss1.length c1] 34)).more (by simp; omega)
      have hg4 : w1.heap.size < (w1.alloc (.cells #[.int .i64 d1, .int .i64 f1, .slice A1 ss1.length c1] 34)).heap.size := by simp
      generalize w1.alloc (.cells #[.int .i64 d1, .int .i64 f1, .slice A1 ss1.length c1] 34) = w5 at *
      have hwB : w.heap.size ≤ w5.heap.size := hbW.size
      go_loopw [4] (fun i wr => ∃ (k N : Nat) (A' : Option Addr) (c' : Nat) (sk : List ByteArray), k ≤ st.length ∧ N ≤ 16777216 ∧ i = .int .i64 k ∧ Hid (runSteps d1 f1 (st.drop k) sk = runSteps d1 f1 st ss1) ∧
          wr.heap[w1.heap.size]? = some (.cells #[.int .i64 d1, .int .i64 f1, .slice A' N c'] 34 (0, 0)) ∧ wr.heap[w.heap.size]? = some (.cells #[.int .i64 d1, .int .i64 f1, .slice A1 ss1.length c1, .int .i64 d2, .int .i64 f2, .slice A2 ss2.length c2, .slice A3 st.length c3] 37) ∧ Strs wr wr.heap.size A' N sk ∧ w5.heap.size ≤ wr.heap.size ∧ Below w.heap.size w wr) (fun i _ => st.length - (intOf i).toNat)
      case atStart => exact ⟨0, ss1.length, A1, c1, ss1, Nat.zero_le _, hn1, rfl, rfl, hkn, hkd2, hS0, Nat.le_refl _, hbW⟩
      case round =>
        obtain ⟨k, N, A', c', sk, hk, hN, rfl, HF, hblk, hkd3, hSk, hzw, hb⟩ := hrel
        obtain ⟨hx0, hx1, hx2, hxl⟩ := blk3 hblk
        obtain ⟨hd0, hd1, hd2, hd3, hd4, hd5, hd6, hdl⟩ := blk7 hkd3
        by_cases hlt : k < st.length
        · obtain ⟨hkl, ad, rfl, hab, hc0, hc1, hc2, hc3, hc4, hc5, hc6, hsb, hsa⟩ := (h3.below (hb.mono hB)).at_ hlt
          have hstep := runSteps_drop (d := d1) (f := f1) (ss := sk) (l := st) (k := k) hkl
          have HST := Lib.hid hstep
          clear hstep
          have hbo := stepRes_ok true d1 f1 sk st[k].K st[k].F st[k].L st[k].T st[k].I st[k].b st[k].a 16777216 (by have := hSk.len; omega) (by omega) hSk.sb hsb hsa
          have HBO := hide hbo
          clear hbo
          have hcon := fun (W : World) (h : Strs W wr.heap.size A' N sk) (hz : wr.heap.size ≤ W.heap.size) => s_StepOn d1 f1 wr.heap.size A' N c' sk st[k].K st[k].F st[k].L st[k].T st[k].I st[k].b st[k].a W h hz hsb hsa
          have HCON := hide hcon
          clear hcon hsb hsa
          generalize er : (stepRes true d1 f1 sk st[k].K st[k].F st[k].L st[k].T st[k].I st[k].b st[k].a).1 = sr at *
          generalize eb : (stepRes true d1 f1 sk st[k].K st[k].F st[k].L st[k].T st[k].I st[k].b st[k].a).2 = br at *
          clear er eb
          cases hbr : br
          · subst hbr
            have HP := Lib.hid (unhide HP3 (by rw [← HF.out, HST.out]; simp))
            go_upto_region 7 with fail
            go_cut [5, 6] (fun s5 s6 wx => ∃ (g9 : Nat) (A7 : Option Addr) (c7 : Nat), s5 = .pointer (some ⟨g9, 0, none⟩) ∧ s6 = .bool false ∧ wx.heap[g9]? = some (.cells #[.int .i64 d1, .int .i64 f1, .slice A7 sr.length c7] 34 (0, 0)) ∧ wx.ownsRow wr.heap.size 9 1 (.slice A7 sr.length c7) sr.length (sr.map Value.string) ∧ wr.heap.size ≤ g9 ∧ Below wr.heap.size wr wx)
            case first =>
              have hq1 : (ad.add (k * 7)).block < wr.heap.size := by rw [block_of_add]; omega
              go_region_held3 (fun W => (∀ p : Addr, p.block < wr.heap.size → W.cell? p = (wr).cell? p) ∧ (∀ p : Addr, p.block < wr.heap.size → W.frozen? p = (wr).frozen? p) ∧ Below (wr.heap.size) (wr) W) (exact keep_ofP (by repeat (first | (with_reducible exact Below.refl _ _) | (with_reducible assumption) | (with_reducible exact (‹_ ∧ _ ∧ Below _ _ _›).2.2) | (with_reducible refine below_drewN ?_ _) | (with_reducible refine Below.drew ?_) | ((with_reducible refine Below.alloc ?_ ?hsd _); (case hsd => (first | exact Nat.le_refl _ | (simp; done) | omega | (simp; omega) | exact (‹_ ∧ _ ∧ Below _ _ _›).2.2.size))) | ((with_reducible refine Below.setCell ?_ ?hsd _); (case hsd => (first | exact Nat.le_refl _ | (simp; done) | omega | (simp; omega) | exact (‹_ ∧ _ ∧ Below _ _ _›).2.2.size))) | ((with_reducible refine Below.trans ?_ (Below.mono (by with_reducible assumption) ?hsd)); (case hsd => (first | exact Nat.le_refl _ | (simp; done) | omega | (simp; omega) | exact (‹_ ∧ _ ∧ Below _ _ _›).2.2.size))) | exact Below.refl _ _ | assumption | exact (‹_ ∧ _ ∧ Below _ _ _›).2.2 | refine below_drewN ?_ _ | refine Below.drew ?_ | refine Below.alloc ?_ (by first | exact Nat.le_refl _ | (simp; done) | omega | (simp; omega) | exact (‹_ ∧ _ ∧ Below _ _ _›).2.2.size) _ | refine Below.setCell ?_ (by first | exact Nat.le_refl _ | (simp; done) | omega | (simp; omega) | exact (‹_ ∧ _ ∧ Below _ _ _›).2.2.size) _ | refine Below.trans ?_ (Below.mono (by assumption) (by first | exact Nat.le_refl _ | (simp; done) | omega | (simp; omega) | exact (‹_ ∧ _ ∧ Below _ _ _›).2.2.size))))) ((go_at_call 119; have hq := (‹_ ∧ _ ∧ Below _ _ _›).2.2; refine (unhide HCON _ (hSk.below hq) hq.size).mono ?_; rintro e w7 ⟨A7, c7, rfl, ho7r, hb7⟩; (have ho7 := own_base (base' := wr.heap.size) ho7r (by first | exact hq.size | exact Nat.le_refl _)); clear ho7r; have hqs := hq.size; have hbs := hb7.size; (try simp at hqs); (try simp at hbs); obtain ⟨hcb7, hfb7⟩ := bcell hb7; (try (have hzl : wr.heap.size < w7.heap.size := (by omega)))))
              all_goals (go_wp2_with fail)
              all_goals (go_meet)
              all_goals (
                refine ⟨_, A7, c7, rfl, rfl, ?_, ?_, ?_, ?_⟩
                first
                  | exact blk_new _ _
                  | exact blk3_set (by first | exact blk_next (blk_new _ _) hb7 | exact blk_next (blk_drew (blk_new _ _)) hb7) _ _ _
                first
                  | exact ho7.alloc _
                  | exact own3_set ho7 (by first | exact blk_next (blk_new _ _) hb7 | exact blk_next (blk_drew (blk_new _ _)) hb7) (by decide) _ _ _
                first
                  | exact Nat.le_refl _
                  | omega
                exact (by repeat (first | (with_reducible exact Below.refl _ _) | (with_reducible assumption) | (with_reducible exact (‹_ ∧ _ ∧ Below _ _ _›).2.2) | (with_reducible refine below_drewN ?_ _) | (with_reducible refine Below.drew ?_) | ((with_reducible refine Below.alloc ?_ ?hsd _); (case hsd => (first | exact Nat.le_refl _ | (simp; done) | omega | (simp; omega) | exact (‹_ ∧ _ ∧ Below _ _ _›).2.2.size))) | ((with_reducible refine Below.setCell ?_ ?hsd _); (case hsd => (first | exact Nat.le_refl _ | (simp; done) | omega | (simp; omega) | exact (‹_ ∧ _ ∧ Below _ _ _›).2.2.size))) | ((with_reducible refine Below.trans ?_ (Below.mono (by with_reducible assumption) ?hsd)); (case hsd => (first | exact Nat.le_refl _ | (simp; done) | omega | (simp; omega) | exact (‹_ ∧ _ ∧ Below _ _ _›).2.2.size))) | exact Below.refl _ _ | assumption | exact (‹_ ∧ _ ∧ Below _ _ _›).2.2 | refine below_drewN ?_ _ | refine Below.drew ?_ | refine Below.alloc ?_ (by first | exact Nat.le_refl _ | (simp; done) | omega | (simp; omega) | exact (‹_ ∧ _ ∧ Below _ _ _›).2.2.size) _ | refine Below.setCell ?_ (by first | exact Nat.le_refl _ | (simp; done) | omega | (simp; omega) | exact (‹_ ∧ _ ∧ Below _ _ _›).2.2.size) _ | refine Below.trans ?_ (Below.mono (by assumption) (by first | exact Nat.le_refl _ | (simp; done) | omega | (simp; omega) | exact (‹_ ∧ _ ∧ Below _ _ _›).2.2.size)))))
            obtain ⟨g9, A7, c7, rfl, rfl, hk9, ho9, hg9, hb9⟩ := hcut
            obtain ⟨w7, hwc⟩ : ∃ W, W = wc := ⟨_, rfl⟩
            subst hwc
            have hk7 := blk_next hblk hb9
            have hd7 := blk_next hkd3 hb9
            have hz7 := hb9.size
            obtain ⟨hv0, hv1, hv2, hvl⟩ := blk3 hk7
            have hfv0 := (blk_cells hk7 0).2
            have hfv1 := (blk_cells hk7 1).2
            have hfv2 := (blk_cells hk7 2).2
            obtain ⟨hg0, hg1, hg2, hgl⟩ := blk3 hk9
            have hb7w : Below w.heap.size w w7 := hb.trans (hb9.mono (by omega))
            clear hx0 hx1 hx2 hxl hd0 hd1 hd2 hd3 hd4 hd5 hd6 hdl
            go_wp2
            go_ret
            exact ⟨ret_bool HP.out.symm, hb7w⟩
          · subst hbr
            have HF2 : Hid (runSteps d1 f1 (st.drop (k + 1)) sr = runSteps d1 f1 st ss1) := by unfold Hid; rw [← HF.out, HST.out]; simp
            go_upto_region 7 with fail
            go_cut [5, 6] (fun s5 s6 wx => ∃ (g9 : Nat) (A7 : Option Addr) (c7 : Nat), s5 = .pointer (some ⟨g9, 0, none⟩) ∧ s6 = .bool true ∧ wx.heap[g9]? = some (.cells #[.int .i64 d1, .int .i64 f1, .slice A7 sr.length c7] 34 (0, 0)) ∧ wx.ownsRow wr.heap.size 9 1 (.slice A7 sr.length c7) sr.length (sr.map Value.string) ∧ wr.heap.size ≤ g9 ∧ Below wr.heap.size wr wx)
            case first =>
              have hq1 : (ad.add (k * 7)).block < wr.heap.size := by rw [block_of_add]; omega
              go_region_held3 (fun W => (∀ p : Addr, p.block < wr.heap.size → W.cell? p = (wr).cell? p) ∧ (∀ p : Addr, p.block < wr.heap.size → W.frozen? p = (wr).frozen? p) ∧ Below (wr.heap.size) (wr) W) (exact keep_ofP (by repeat (first | (with_reducible exact Below.refl _ _) | (with_reducible assumption) | (with_reducible exact (‹_ ∧ _ ∧ Below _ _ _›).2.2) | (with_reducible refine below_drewN ?_ _) | (with_reducible refine Below.drew ?_) | ((with_reducible refine Below.alloc ?_ ?hsd _); (case hsd => (first | exact Nat.le_refl _ | (simp; done) | omega | (simp; omega) | exact (‹_ ∧ _ ∧ Below _ _ _›).2.2.size))) | ((with_reducible refine Below.setCell ?_ ?hsd _); (case hsd => (first | exact Nat.le_refl _ | (simp; done) | omega | (simp; omega) | exact (‹_ ∧ _ ∧ Below _ _ _›).2.2.size))) | ((with_reducible refine Below.trans ?_ (Below.mono (by with_reducible assumption) ?hsd)); (case hsd => (first | exact Nat.le_refl _ | (simp; done) | omega | (simp; omega) | exact (‹_ ∧ _ ∧ Below _ _ _›).2.2.size))) | exact Below.refl _ _ | assumption | exact (‹_ ∧ _ ∧ Below _ _ _›).2.2 | refine below_drewN ?_ _ | refine Below.drew ?_ | refine Below.alloc ?_ (by first | exact Nat.le_refl _ | (simp; done) | omega | (simp; omega) | exact (‹_ ∧ _ ∧ Below _ _ _›).2.2.size) _ | refine Below.setCell ?_ (by first | exact Nat.le_refl _ | (simp; done) | omega | (simp; omega) | exact (‹_ ∧ _ ∧ Below _ _ _›).2.2.size) _ | refine Below.trans ?_ (Below.mono (by assumption) (by first | exact Nat.le_refl _ | (simp; done) | omega | (simp; omega) | exact (‹_ ∧ _ ∧ Below _ _ _›).2.2.size))))) ((go_at_call 119; have hq := (‹_ ∧ _ ∧ Below _ _ _›).2.2; refine (unhide HCON _ (hSk.below hq) hq.size).mono ?_; rintro e w7 ⟨A7, c7, rfl, ho7r, hb7⟩; (have ho7 := own_base (base' := wr.heap.size) ho7r (by first | exact hq.size | exact Nat.le_refl _)); clear ho7r; have hqs := hq.size; have hbs := hb7.size; (try simp at hqs); (try simp at hbs); obtain ⟨hcb7, hfb7⟩ := bcell hb7; (try (have hzl : wr.heap.size < w7.heap.size := (by omega)))))
              all_goals (go_wp2_with fail)
              all_goals (go_meet)
              all_goals (
                refine ⟨_, A7, c7, rfl, rfl, ?_, ?_, ?_, ?_⟩
                first
                  | exact blk_new _ _
                  | exact blk3_set (by first | exact blk_next (blk_new _ _) hb7 | exact blk_next (blk_drew (blk_new _ _)) hb7) _ _ _
                first
                  | exact ho7.alloc _
                  | exact own3_set ho7 (by first | exact blk_next (blk_new _ _) hb7 | exact blk_next (blk_drew (blk_new _ _)) hb7) (by decide) _ _ _
                first
                  | exact Nat.le_refl _
                  | omega
                exact (by repeat (first | (with_reducible exact Below.refl _ _) | (with_reducible assumption) | (with_reducible exact (‹_ ∧ _ ∧ Below _ _ _›).2.2) | (with_reducible refine below_drewN ?_ _) | (with_reducible refine Below.drew ?_) | ((with_reducible refine Below.alloc ?_ ?hsd _); (case hsd => (first | exact Nat.le_refl _ | (simp; done) | omega | (simp; omega) | exact (‹_ ∧ _ ∧ Below _ _ _›).2.2.size))) | ((with_reducible refine Below.setCell ?_ ?hsd _); (case hsd => (first | exact Nat.le_refl _ | (simp; done) | omega | (simp; omega) | exact (‹_ ∧ _ ∧ Below _ _ _›).2.2.size))) | ((with_reducible refine Below.trans ?_ (Below.mono (by with_reducible assumption) ?hsd)); (case hsd => (first | exact Nat.le_refl _ | (simp; done) | omega | (simp; omega) | exact (‹_ ∧ _ ∧ Below _ _ _›).2.2.size))) | exact Below.refl _ _ | assumption | exact (‹_ ∧ _ ∧ Below _ _ _›).2.2 | refine below_drewN ?_ _ | refine Below.drew ?_ | refine Below.alloc ?_ (by first | exact Nat.le_refl _ | (simp; done) | omega | (simp; omega) | exact (‹_ ∧ _ ∧ Below _ _ _›).2.2.size) _ | refine Below.setCell ?_ (by first | exact Nat.le_refl _ | (simp; done) | omega | (simp; omega) | exact (‹_ ∧ _ ∧ Below _ _ _›).2.2.size) _ | refine Below.trans ?_ (Below.mono (by assumption) (by first | exact Nat.le_refl _ | (simp; done) | omega | (simp; omega) | exact (‹_ ∧ _ ∧ Below _ _ _›).2.2.size)))))
            obtain ⟨g9, A7, c7, rfl, rfl, hk9, ho9, hg9, hb9⟩ := hcut
            obtain ⟨w7, hwc⟩ : ∃ W, W = wc := ⟨_, rfl⟩
            subst hwc
            have hk7 := blk_next hblk hb9
            have hd7 := blk_next hkd3 hb9
            have hz7 := hb9.size
            obtain ⟨hv0, hv1, hv2, hvl⟩ := blk3 hk7
            have hfv0 := (blk_cells hk7 0).2
            have hfv1 := (blk_cells hk7 1).2
            have hfv2 := (blk_cells hk7 2).2
            obtain ⟨hg0, hg1, hg2, hgl⟩ := blk3 hk9
            have hb7w : Below w.heap.size w w7 := hb.trans (hb9.mono (by omega))
            clear hx0 hx1 hx2 hxl hd0 hd1 hd2 hd3 hd4 hd5 hd6 hdl
            go_wp2
            have hSf : ∀ (u v x : Value), Strs (((w7.setCell ⟨w1.heap.size, 0, none⟩ u).setCell ⟨w1.heap.size, 1, none⟩ v).setCell ⟨w1.heap.size, 2, none⟩ x) (((w7.setCell ⟨w1.heap.size, 0, none⟩ u).setCell ⟨w1.heap.size, 1, none⟩ v).setCell ⟨w1.heap.size, 2, none⟩ x).heap.size A7 sr.length sr := fun u v x => strs_of_own (own3_set ho9 hk7 (by decide) u v x) (unhide HBO).1 (unhide HBO).2
            have HSF := hide hSf
            clear hSf
            go_roundw
            case rel => exact ⟨k + 1, sr.length, A7, c7, sr, by omega, (unhide HBO).1, by go_num, HF2, blk3_set hk7 _ _ _, blk_other3 hd7 (by omega) _ _ _, unhide HSF _ _ _, by simp [World.setCell]; omega, (by repeat (first | (with_reducible exact Below.refl _ _) | (with_reducible assumption) | (with_reducible exact (‹_ ∧ _ ∧ Below _ _ _›).2.2) | (with_reducible refine below_drewN ?_ _) | (with_reducible refine Below.drew ?_) | ((with_reducible refine Below.alloc ?_ ?hsd _); (case hsd => (first | exact Nat.le_refl _ | (simp; done) | omega | (simp; omega) | exact (‹_ ∧ _ ∧ Below _ _ _›).2.2.size))) | ((with_reducible refine Below.setCell ?_ ?hsd _); (case hsd => (first | exact Nat.le_refl _ | (simp; done) | omega | (simp; omega) | exact (‹_ ∧ _ ∧ Below _ _ _›).2.2.size))) | ((with_reducible refine Below.trans ?_ (Below.mono (by with_reducible assumption) ?hsd)); (case hsd => (first | exact Nat.le_refl _ | (simp; done) | omega | (simp; omega) | exact (‹_ ∧ _ ∧ Below _ _ _›).2.2.size))) | exact Below.refl _ _ | assumption | exact (‹_ ∧ _ ∧ Below _ _ _›).2.2 | refine below_drewN ?_ _ | refine Below.drew ?_ | refine Below.alloc ?_ (by first | exact Nat.le_refl _ | (simp; done) | omega | (simp; omega) | exact (‹_ ∧ _ ∧ Below _ _ _›).2.2.size) _ | refine Below.setCell ?_ (by first | exact Nat.le_refl _ | (simp; done) | omega | (simp; omega) | exact (‹_ ∧ _ ∧ Below _ _ _›).2.2.size) _ | refine Below.trans ?_ (Below.mono (by assumption) (by first | exact Nat.le_refl _ | (simp; done) | omega | (simp; omega) | exact (‹_ ∧ _ ∧ Below _ _ _›).2.2.size))))⟩
            case measure => simp [intOf]; omega
        · have hke : k = st.length := by omega
          have hd : st.drop k = [] := List.drop_eq_nil_of_le (by omega)
          have hfin : runSteps d1 f1 st ss1 = some sk := by rw [← HF.out, hd]; rfl
          have HP := Lib.hid (unhide HP4 _ hfin)
          clear hd hfin
          have hT2 := (h2.below (hb.mono hB)).more (by omega : B ≤ wr.heap.size)
          have hcon := s_SameCard d1 f1 d2 f2 wr.heap.size A' A2 N c' ss2.length c2 sk ss2
          have HCON := hide hcon
          clear hcon
          subst hke
          go_wp2_with (first | (go_at_call 120; refine (unhide HCON _ hSk hT2 (Nat.le_refl _)).mono ?_; rintro e w9 ⟨rfl, hb9⟩))
          go_ret
          exact ⟨ret_bool HP.out.symm, hb.trans (hb9.mono (by omega))⟩
    · have HP := Lib.hid (hp2 h40)
      clear hp1 hp2 hp3 hp4
      go_enter Tryz.func62, Tryz.ntmps62
      go_wp2_with (first | (go_at_call 118; refine (s_CardOk _ _ _ _ _ ss1 _ ((h1.alloc hB (.cells #[.int .i64 d1, .int .i64 f1, .slice A1 ss1.length c1, .int .i64 d2, .int .i64 f2, .slice A2 ss2.length c2, .slice A3 st.length c3] 37)).more (by simp; omega))).mono ?_; rw [hck]; rintro e w1 ⟨rfl, hb1⟩; obtain ⟨hcb1, hfb1⟩ := bcell hb1; have hz_w1_0 : w.heap.size < w1.heap.size := (by have hzz := hb1.size; (try simp at hzz); omega); have hy_w1_0 := Nat.le_of_lt hz_w1_0))
      go_ret
      exact ⟨ret_bool HP.out.symm, (by repeat (first | (with_reducible exact Below.refl _ _) | (with_reducible assumption) | (with_reducible exact (‹_ ∧ _ ∧ Below _ _ _›).2.2) | (with_reducible refine below_drewN ?_ _) | (with_reducible refine Below.drew ?_) | ((with_reducible refine Below.alloc ?_ ?hsd _); (case hsd => (first | exact Nat.le_refl _ | (simp; done) | omega | (simp; omega) | exact (‹_ ∧ _ ∧ Below _ _ _›).2.2.size))) | ((with_reducible refine Below.setCell ?_ ?hsd _); (case hsd => (first | exact Nat.le_refl _ | (simp; done) | omega | (simp; omega) | exact (‹_ ∧ _ ∧ Below _ _ _›).2.2.size))) | ((with_reducible refine Below.trans ?_ (Below.mono (by with_reducible assumption) ?hsd)); (case hsd => (first | exact Nat.le_refl _ | (simp; done) | omega | (simp; omega) | exact (‹_ ∧ _ ∧ Below _ _ _›).2.2.size))) | exact Below.refl _ _ | assumption | exact (‹_ ∧ _ ∧ Below _ _ _›).2.2 | refine below_drewN ?_ _ | refine Below.drew ?_ | refine Below.alloc ?_ (by first | exact Nat.le_refl _ | (simp; done) | omega | (simp; omega) | exact (‹_ ∧ _ ∧ Below _ _ _›).2.2.size) _ | refine Below.setCell ?_ (by first | exact Nat.le_refl _ | (simp; done) | omega | (simp; omega) | exact (‹_ ∧ _ ∧ Below _ _ _›).2.2.size) _ | refine Below.trans ?_ (Below.mono (by assumption) (by first | exact Nat.le_refl _ | (simp; done) | omega | (simp; omega) | exact (‹_ ∧ _ ∧ Below _ _ _›).2.2.size))))⟩
end Go.Proofs.YtdddglihomchfaaGreat
