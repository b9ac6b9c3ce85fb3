/- Contracts of the program's and the reference's functions (Same1). -/
import Derived.Deep.DeepCutAuto
import Derived.Deep.RegionHeld3
import Derived.Test.YtccjedongkokoaaRows
import Derived.Test.YtccjedongkokoaaQTb
namespace Go.Proofs.Ytccjedongkokoaa
open Go.ChangeShapes Go.WideShapes Go.ChangeAt Go.RowKit
set_option linter.unusedVariables false
set_option maxRecDepth 10000
set_option maxHeartbeats 800000 in
theorem equal_str (B : Nat) (A1 A2 : Option Addr) (n1 n2 c1 c2 : Nat) (ss ts : List ByteArray) (w : World) (h1 : Strs w B A1 n1 ss) (h2 : Strs w B A2 n2 ts) :
    Calls Try.prog 54 #[.slice A1 n1 c1, .slice A2 n2 c2] w fun e w' => e = .returned (.bool (eqSS ss ts)) ∧ ∃ m, w' = w.drewN m := by
  have hl1 := h1.len
  have hl2 := h2.len
  have hn1 := h1.nb
  have hn2 := h2.nb
  by_cases hn : n1 = n2
  · subst hn
    have HL1 := Lib.hid hl1
    have HL2 := Lib.hid hl2
    clear hl1 hl2
    go_enter Try.func54, Try.ntmps54
    go_wp2
    go_loopw [13] (fun i wr => ∃ j m : Nat, j ≤ n1 ∧ i = .int .i64 j ∧ wr = w.drewN m ∧ Hid (ss.take j = ts.take j)) (fun i _ => n1 - (intOf i).toNat)
    case atStart => exact ⟨0, 0, Nat.zero_le _, rfl, rfl, by unfold Hid; simp⟩
    case round =>
      obtain ⟨j, m, hj, rfl, rfl, HT⟩ := hrel
      by_cases hlt : j < n1
      · obtain ⟨hk1, ad1, rfl, hab1, hc1, _⟩ := h1.at_ hlt
        obtain ⟨hk2, ad2, rfl, hab2, hc2, _⟩ := h2.at_ hlt
        by_cases he : ss[j] = ts[j]
        · have HE := Lib.hid he
          have hbq := beq_toList_true he
          clear he
          go_wp2
          go_quiet (fail)
          go_wp2
          go_roundw
          case rel =>
            refine ⟨j + 1, _, by omega, by go_num, by first | rfl | exact World.drewN_drewN _ _ _, ?_⟩
            unfold Hid
            rw [List.take_succ_eq_append_getElem hk1, List.take_succ_eq_append_getElem hk2, HT.out, HE.out]
          case measure => simp [intOf]; omega
        · have HF : Hid (eqSS ss ts = false) := by
            unfold Hid eqSS
            rw [decide_eq_false_iff_not]
            intro h; subst h; exact he rfl
          have hbq := beq_toList_false he
          clear he
          go_wp2
          go_quiet (fail)
          go_wp2
          go_ret
          exact ⟨ret_bool HF.out.symm, by first | exact ⟨_, rfl⟩ | exact ⟨_, World.drewN_drewN _ _ _⟩⟩
      · have HF : Hid (eqSS ss ts = true) := by
          unfold Hid eqSS
          rw [decide_eq_true_iff]
          have h := HT.out
          rw [List.take_of_length_le (by have := HL1.out; omega), List.take_of_length_le (by have := HL2.out; omega)] at h
          exact h
        go_wp2
        go_ret
        exact ⟨ret_bool HF.out.symm, by first | exact ⟨_, rfl⟩ | exact ⟨_, World.drewN_drewN _ _ _⟩⟩
  · have HF : Hid (eqSS ss ts = false) := by
      unfold Hid eqSS
      rw [decide_eq_false_iff_not]
      intro h; subst h; omega
    clear hl1 hl2
    go_enter Try.func54, Try.ntmps54
    go_wp2
    go_ret
    exact ⟨ret_bool HF.out.symm, ⟨0, rfl⟩⟩
def sameCard (d f d2 f2 : Int) (ss ts : List ByteArray) : Bool := (d == d2) && ((f == f2) && eqSS ss ts)
set_option maxHeartbeats 800000 in
theorem i_SameCard (d f d2 f2 : Int) (B : Nat) (A A2 : Option Addr) (n c n2 c2 : Nat) (ss ts : List ByteArray) (w : World) (hS : Strs w B A n ss) (hT : Strs w B A2 n2 ts) (hB : B ≤ w.heap.size) :
    Calls Try.prog 13 #[.agg #[.int .i64 d, .int .i64 f, .slice A n c], .agg #[.int .i64 d2, .int .i64 f2, .slice A2 n2 c2]] w fun e w' => e = .returned (.bool (sameCard d f d2 f2 ss ts)) ∧ Below w.heap.size w w' := by
  have hn := hS.nb
  have hn2 := hT.nb
  have hS2 := (hS.alloc hB (.cells #[.int .i64 d, .int .i64 f, .slice A n c] 26)).alloc (by simp; omega) (.cells #[.int .i64 d2, .int .i64 f2, .slice A2 n2 c2] 26)
  have hT2 := (hT.alloc hB (.cells #[.int .i64 d, .int .i64 f, .slice A n c] 26)).alloc (by simp; omega) (.cells #[.int .i64 d2, .int .i64 f2, .slice A2 n2 c2] 26)
  have arm := fun (W : World) (h1 : Strs W B A n ss) (h2 : Strs W B A2 n2 ts) => equal_str B A A2 n n2 c c2 ss ts W h1 h2
  have ARM := hide arm
  clear arm
  unfold sameCard
  cases h3 : (d == d2)
  · go_enter Try.func13, Try.ntmps13
    go_wp2
    go_ret
    exact ⟨rfl, bel⟩
  · cases h4 : (f == f2)
    · go_enter Try.func13, Try.ntmps13
      go_wp2
      go_ret
      exact ⟨rfl, bel⟩
    · go_enter Try.func13, Try.ntmps13
      go_wp2_with (go_at_call 54; refine (unhide ARM _ hS2 hT2).mono ?_; rintro e w' ⟨rfl, m, rfl⟩)
      go_ret
      exact ⟨ret_bool (by simp), bel⟩
set_option maxHeartbeats 1600000 in
theorem s_SameCard (d f d2 f2 : Int) (B : Nat) (A A2 : Option Addr) (n c n2 c2 : Nat) (ss ts : List ByteArray) (w : World) (hS : Strs w B A n ss) (hT : Strs w B A2 n2 ts) (hB : B ≤ w.heap.size) :
    Calls Try.prog 28 #[.agg #[.int .i64 d, .int .i64 f, .slice A n c], .agg #[.int .i64 d2, .int .i64 f2, .slice A2 n2 c2]] w fun e w' => e = .returned (.bool (sameCard d f d2 f2 ss ts)) ∧ Below w.heap.size w w' := by
  have hn := hS.nb
  have hn2 := hT.nb
  have hS2 := (hS.alloc hB (.cells #[.int .i64 d, .int .i64 f, .slice A n c] 26)).alloc (by simp; omega) (.cells #[.int .i64 d2, .int .i64 f2, .slice A2 n2 c2] 26)
  have hT2 := (hT.alloc hB (.cells #[.int .i64 d, .int .i64 f, .slice A n c] 26)).alloc (by simp; omega) (.cells #[.int .i64 d2, .int .i64 f2, .slice A2 n2 c2] 26)
  have hl := hS.len
  have hl2 := hT.len
  have hnq : (n : Int) = n2 → ss.length = ts.length := fun h => by omega
  have hnn : ¬ (n : Int) = n2 → eqSS ss ts = false := fun h => by unfold eqSS; rw [decide_eq_false_iff_not]; intro h2; subst h2; omega
  have HNN := hide hnn
  have HL := Lib.hid hl
  have HL2 := Lib.hid hl2
  clear hl hl2 hnq hnn
  unfold sameCard
  cases h3 : (d == d2)
  · have e3 : (d != d2) = true := by simpa using h3
    go_enter Try.func28, Try.ntmps28
    go_wp2
    go_ret
    exact ⟨rfl, bel⟩
  · have e3 : (d != d2) = false := by simpa using h3
    cases h4 : (f == f2)
    · have e4 : (f != f2) = true := by simpa using h4
      go_enter Try.func28, Try.ntmps28
      go_wp2
      go_ret
      exact ⟨rfl, bel⟩
    · have e4 : (f != f2) = false := by simpa using h4
      cases h5 : ((n : Int) == (n2 : Int))
      · have HF := Lib.hid (unhide HNN (by simpa using h5))
        have e5 : ((n : Int) != (n2 : Int)) = true := by simpa using h5
        go_enter Try.func28, Try.ntmps28
        go_wp2
        go_ret
        exact ⟨ret_bool (by rw [HF.out]; rfl), bel⟩
      · have hni : (n : Int) = n2 := by simpa using h5
        have hnn : n = n2 := by omega
        clear hni
        subst hnn
        clear h5
        go_enter Try.func28, Try.ntmps28
        go_wp2
        go_loopw [5] (fun i wr => ∃ j m : Nat, j ≤ n ∧ i = .int .i64 j ∧ wr = ((w.alloc (.cells #[.int .i64 d, .int .i64 f, .slice A n c] 26)).alloc (.cells #[.int .i64 d2, .int .i64 f2, .slice A2 n c2] 26)).drewN m ∧ Hid (ss.take j = ts.take j)) (fun i _ => n - (intOf i).toNat)
        case atStart => exact ⟨0, 0, Nat.zero_le _, rfl, rfl, by unfold Hid; simp⟩
        case round =>
          obtain ⟨j, m, hj, rfl, rfl, HT⟩ := hrel
          by_cases hlt : j < n
          · obtain ⟨hk1, ad1, rfl, hab1, hc1, _⟩ := hS.at_ hlt
            obtain ⟨hk2, ad2, rfl, hab2, hc2, _⟩ := hT.at_ hlt
            have hcc1 : ∀ o p : Obj, ((w.alloc o).alloc p).cell? (ad1.add j) = some (.string ss[j]) := fun o p => by
              rw [World.cell?_alloc_lt _ _ _ (by rw [block_of_add]; simp; omega), World.cell?_alloc_lt _ _ _ (by rw [block_of_add]; omega)]; exact hc1
            have hcc2 : ∀ o p : Obj, ((w.alloc o).alloc p).cell? (ad2.add j) = some (.string ts[j]) := fun o p => by
              rw [World.cell?_alloc_lt _ _ _ (by rw [block_of_add]; simp; omega), World.cell?_alloc_lt _ _ _ (by rw [block_of_add]; omega)]; exact hc2
            by_cases he : ss[j] = ts[j]
            · have HE := Lib.hid he
              have hbq := beq_toList_true he
              clear he
              go_wp2
              go_quiet (fail)
              go_wp2
              go_roundw
              case rel =>
                refine ⟨j + 1, _, by omega, by go_num, by first | rfl | exact World.drewN_drewN _ _ _, ?_⟩
                unfold Hid
                rw [List.take_succ_eq_append_getElem hk1, List.take_succ_eq_append_getElem hk2, HT.out, HE.out]
              case measure => simp [intOf]; omega
            · have HF : Hid (eqSS ss ts = false) := by
                unfold Hid eqSS
                rw [decide_eq_false_iff_not]
                intro h; subst h; exact he rfl
              have hbq := beq_toList_false he
              clear he
              go_wp2
              go_quiet (fail)
              go_wp2
              go_ret
              exact ⟨ret_bool (by rw [HF.out]; rfl), bel⟩
          · have HF : Hid (eqSS ss ts = true) := by
              unfold Hid eqSS
              rw [decide_eq_true_iff]
              have h := HT.out
              rw [List.take_of_length_le (by have := HL.out; omega), List.take_of_length_le (by have := HL2.out; omega)] at h
              exact h
            go_wp2
            go_ret
            exact ⟨ret_bool (by rw [HF.out]; rfl), bel⟩
end Go.Proofs.Ytccjedongkokoaa
