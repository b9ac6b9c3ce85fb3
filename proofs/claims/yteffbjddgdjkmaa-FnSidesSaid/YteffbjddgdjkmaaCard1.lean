/- Cards in memory; the contracts of CardOk of both packages. -/
import Derived.Test.YteffbjddgdjkmaaStr2
import Derived.Test.YteffbjddgdjkmaaMem
namespace Go.Proofs.Yteffbjddgdjkmaa
open Go.ChangeShapes Go.WideShapes Go.ChangeAt Go.RowKit

structure Strs (w : World) (B : Nat) (A : Option Addr) (n : Nat) (ss : List ByteArray) : Prop where
  rd : Reads w B 1 A n (ss.map Value.string)
  nb : n ≤ 16777216
  sb : ∀ s ∈ ss, s.size ≤ 16777216

section
variable {w w' : World} {B B' n : Nat} {A : Option Addr} {ss : List ByteArray}
theorem Strs.len (h : Strs w B A n ss) : ss.length = n := by have := h.rd.1; simpa using this
theorem Strs.at_ {k : Nat} (h : Strs w B A n ss) (hk : k < n) : ∃ (hk' : k < ss.length) (ad : Addr), A = some ad ∧ ad.block < B ∧ w.cell? (ad.add k) = some (.string ss[k]) ∧ ss[k].size ≤ 16777216 := by
  obtain ⟨ad, u, rfl, hb, hx, hc⟩ := h.rd.at_ hk
  have hl := h.len
  have hk' : k < ss.length := by omega
  refine ⟨hk', ad, rfl, hb, ?_, h.sb _ (List.getElem_mem hk')⟩
  rw [hc]
  rw [List.getElem?_map, List.getElem?_eq_getElem hk'] at hx
  simpa using hx.symm
theorem Strs.keep (h : Strs w B A n ss) (hk : ∀ p : Addr, p.block < B → w'.cell? p = w.cell? p) : Strs w' B A n ss := ⟨h.rd.keep hk, h.nb, h.sb⟩
theorem Strs.more (h : Strs w B A n ss) (hB : B ≤ B') : Strs w B' A n ss := ⟨h.rd.more hB, h.nb, h.sb⟩
theorem Strs.below (h : Strs w B A n ss) (hb : Below B w w') : Strs w' B A n ss := ⟨h.rd.below hb, h.nb, h.sb⟩
theorem Strs.drewN (h : Strs w B A n ss) (k : Nat) : Strs (w.drewN k) B A n ss := ⟨h.rd.drewN k, h.nb, h.sb⟩
theorem Strs.alloc (h : Strs w B A n ss) (hB : B ≤ w.heap.size) (o : Obj) : Strs (w.alloc o) B A n ss := ⟨h.rd.alloc hB o, h.nb, h.sb⟩
end

def stripOf (d f : Int) (s : ByteArray) : Bool := (downOf s.data.toList == d) && (forwardOf s.data.toList == f)
def cardOk (d f : Int) (ss : List ByteArray) : Bool := (isStepsB d && isStepsB f) && (inB ss.length 1 10 && ss.all (stripOf d f))

theorem cardOk_no {d f : Int} {ss : List ByteArray} {k : Nat} (hk : k < ss.length) (h : stripOf d f ss[k] = false) : cardOk d f ss = false := by
  have : ss.all (stripOf d f) = false := by
    rw [List.all_eq_false]; exact ⟨ss[k], List.getElem_mem hk, by simp [h]⟩
  unfold cardOk; rw [this]; simp

set_option maxHeartbeats 400000 in
theorem i_CardOk (d f : Int) (A : Option Addr) (n c : Nat) (ss : List ByteArray) (w : World) (hS : Strs w w.heap.size A n ss) :
    Calls Try.prog 80 #[.agg #[.int .i64 d, .int .i64 f, .slice A n c]] w fun e w' => e = .returned (.bool (cardOk d f ss)) ∧ Below w.heap.size w w' := by
  have hn := hS.nb
  go_enter Try.func80, Try.ntmps80
  go_wp2
  go_loopw [4, 8] (fun s i wr => ∃ k m : Nat, k ≤ n ∧ i = .int .i64 k ∧ wr = (w.alloc (.cells #[.int .i64 d, .int .i64 f, .slice A n c] 26)).drewN m ∧ (ss.take k).all (stripOf d f) = true) (fun _ i _ => n - (intOf i).toNat)
  case atStart => exact ⟨0, 0, Nat.zero_le _, rfl, rfl, by simp⟩
  case round =>
    obtain ⟨k, m, hk, rfl, rfl, hall⟩ := hrel
    by_cases hlt : k < n
    · obtain ⟨hk', ad, rfl, hab, hc, hsb⟩ := hS.at_ hlt
      have hab' : ad.block ≠ w.heap.size := by omega
      have hcc : ∀ (o : Obj), (w.alloc o).cell? (ad.add k) = some (.string ss[k]) := fun o => by
        rw [World.cell?_alloc_lt _ _ _ (by rw [block_of_add]; exact hab)]; exact hc
      have hq1 : ∀ W : World, Calls Try.prog 143 #[.string ss[k]] W fun e w' => e = .returned (.int .i64 (downOf ss[k].data.toList)) ∧ W = w' := fun W => i_DownOf _ _ (by unfold maxLen; omega)
      have hq2 : ∀ W : World, Calls Try.prog 144 #[.string ss[k]] W fun e w' => e = .returned (.int .i64 (forwardOf ss[k].data.toList)) ∧ W = w' := fun W => i_ForwardOf _ _ (by unfold maxLen; omega)
      have HQ1 := hide hq1
      have HQ2 := hide hq2
      clear hq1 hq2
      have hts : ss.take (k + 1) = ss.take k ++ [ss[k]] := by rw [List.take_succ_eq_append_getElem hk']
      have HT := Lib.hid hts
      have HA := Lib.hid hall
      clear hts hall
      cases h1 : (downOf ss[k].data.toList != d)
      · cases h2 : (forwardOf ss[k].data.toList != f)
        · go_wp2
          go_quiet (((first | (go_at_call 143; first | exact quiet_left (unhide HQ1 _) | exact quiet_add_left (unhide HQ1 _)) | (go_at_call 144; first | exact quiet_left (unhide HQ2 _) | exact quiet_add_left (unhide HQ2 _)))))
          go_wp2
          go_roundw
          case rel =>
            refine ⟨k + 1, _, by omega, by go_num, rfl, ?_⟩
            rw [HT.out, List.all_append, HA.out]
            simp at h1 h2
            simp [stripOf, h1, h2]
          case measure => simp [intOf]; omega
        · have hfin : cardOk d f ss = false := cardOk_no hk' (by simp at h2; simp [stripOf, h2])
          have HF := Lib.hid hfin
          clear hfin
          go_wp2
          go_quiet (((first | (go_at_call 143; first | exact quiet_left (unhide HQ1 _) | exact quiet_add_left (unhide HQ1 _)) | (go_at_call 144; first | exact quiet_left (unhide HQ2 _) | exact quiet_add_left (unhide HQ2 _)))))
          go_wp2
          go_ret
          exact ⟨ret_bool HF.out.symm, bel⟩
      · have hfin : cardOk d f ss = false := cardOk_no hk' (by simp at h1; simp [stripOf, h1])
        have HF := Lib.hid hfin
        clear hfin
        go_wp2
        go_quiet (((first | (go_at_call 143; first | exact quiet_left (unhide HQ1 _) | exact quiet_add_left (unhide HQ1 _)) | (go_at_call 144; first | exact quiet_left (unhide HQ2 _) | exact quiet_add_left (unhide HQ2 _)))))
        go_wp2
        go_ret
        exact ⟨ret_bool HF.out.symm, bel⟩
    · have hk2 : k = n := by omega
      have hl := hS.len
      have ht : ss.take k = ss := List.take_of_length_le (by omega)
      rw [ht] at hall
      have HA := Lib.hid hall
      have HL := Lib.hid hl
      clear hall ht hl
      subst hk2
      cases h1 : isStepsB d <;> cases h2 : isStepsB f <;> cases h3 : inB k 1 10 <;>
      · go_wp2_with (first | (go_at_call 103; refine (i_isSteps _ _).mono ?_; rintro e w' ⟨rfl, rfl⟩) | (go_at_call 81; refine (i_within _ _ _ _).mono ?_; rintro e w' ⟨rfl, rfl⟩))
        go_ret
        exact ⟨ret_bool (by unfold cardOk; rw [HA.out, HL.out, h1, h2, h3]; rfl), bel⟩

set_option maxHeartbeats 400000 in
theorem s_CardOk (d f : Int) (A : Option Addr) (n c : Nat) (ss : List ByteArray) (w : World) (hS : Strs w w.heap.size A n ss) :
    Calls Try.prog 90 #[.agg #[.int .i64 d, .int .i64 f, .slice A n c]] w fun e w' => e = .returned (.bool (cardOk d f ss)) ∧ Below w.heap.size w w' := by
  have hn := hS.nb
  have hl := hS.len
  cases h1 : (isStepsB d && isStepsB f)
  · have HF : Hid (cardOk d f ss = false) := by unfold Hid cardOk; rw [h1]; rfl
    go_enter Try.func90, Try.ntmps90
    go_wp2_with (first | (go_at_call 130; refine (s_l02Frame _ _ _).mono ?_; rintro e w' ⟨rfl, rfl⟩) | (go_at_call 93; refine (s_l01In _ _ _ _).mono ?_; rintro e w' ⟨rfl, rfl⟩))
    go_ret
    exact ⟨ret_bool HF.out.symm, bel⟩
  · cases h2 : inB n 1 10
    · have HF : Hid (cardOk d f ss = false) := by unfold Hid cardOk; rw [h1, hl, h2]; rfl
      have HL := Lib.hid hl
      clear hl
      go_enter Try.func90, Try.ntmps90
      go_wp2_with (first | (go_at_call 130; refine (s_l02Frame _ _ _).mono ?_; rintro e w' ⟨rfl, rfl⟩) | (go_at_call 93; refine (s_l01In _ _ _ _).mono ?_; rintro e w' ⟨rfl, rfl⟩))
      go_ret
      exact ⟨ret_bool HF.out.symm, bel⟩
    · have HL := Lib.hid hl
      clear hl
      have h1' := Lib.hid h1
      have h2' := Lib.hid h2
      go_enter Try.func90, Try.ntmps90
      go_wp2_with (first | (go_at_call 130; refine (s_l02Frame _ _ _).mono ?_; rintro e w' ⟨rfl, rfl⟩) | (go_at_call 93; refine (s_l01In _ _ _ _).mono ?_; rintro e w' ⟨rfl, rfl⟩))
      go_loopw [3] (fun i wr => ∃ k m : Nat, k ≤ n ∧ i = .int .i64 k ∧ wr = (w.alloc (.cells #[.int .i64 d, .int .i64 f, .slice A n c] 26)).drewN m ∧ (ss.take k).all (stripOf d f) = true) (fun i _ => n - (intOf i).toNat)
      case atStart => exact ⟨0, 0, Nat.zero_le _, rfl, rfl, by simp⟩
      case round =>
        obtain ⟨k, m, hk, rfl, rfl, hall⟩ := hrel
        by_cases hlt : k < n
        · obtain ⟨hk', ad, rfl, hab, hc, hsb⟩ := hS.at_ hlt
          have hab' : ad.block ≠ w.heap.size := by omega
          have hcc : ∀ (o : Obj), (w.alloc o).cell? (ad.add k) = some (.string ss[k]) := fun o => by
            rw [World.cell?_alloc_lt _ _ _ (by rw [block_of_add]; exact hab)]; exact hc
          have hq1 : ∀ W : World, Calls Try.prog 148 #[.string ss[k]] W fun e w' => e = .returned (.int .i64 (downOf ss[k].data.toList)) ∧ W = w' := fun W => s_DownOf _ _ (by unfold maxLen; omega)
          have hq2 : ∀ W : World, Calls Try.prog 149 #[.string ss[k]] W fun e w' => e = .returned (.int .i64 (forwardOf ss[k].data.toList)) ∧ W = w' := fun W => s_ForwardOf _ _ (by unfold maxLen; omega)
          have HQ1 := hide hq1
          have HQ2 := hide hq2
          clear hq1 hq2
          have hts : ss.take (k + 1) = ss.take k ++ [ss[k]] := by rw [List.take_succ_eq_append_getElem hk']
          have HT := Lib.hid hts
          have HA := Lib.hid hall
          clear hts hall
          cases h3 : (downOf ss[k].data.toList != d)
          · cases h4 : (forwardOf ss[k].data.toList != f)
            · go_wp2
              go_quiet (((first | (go_at_call 148; first | exact quiet_left (unhide HQ1 _) | exact quiet_add_left (unhide HQ1 _)) | (go_at_call 149; first | exact quiet_left (unhide HQ2 _) | exact quiet_add_left (unhide HQ2 _)))))
              go_wp2
              go_roundw
              case rel =>
                refine ⟨k + 1, _, by omega, by go_num, rfl, ?_⟩
                rw [HT.out, List.all_append, HA.out]
                simp at h3 h4
                simp [stripOf, h3, h4]
              case measure => simp [intOf]; omega
            · have hfin : cardOk d f ss = false := cardOk_no hk' (by simp at h4; simp [stripOf, h4])
              have HF := Lib.hid hfin
              clear hfin
              go_wp2
              go_quiet (((first | (go_at_call 148; first | exact quiet_left (unhide HQ1 _) | exact quiet_add_left (unhide HQ1 _)) | (go_at_call 149; first | exact quiet_left (unhide HQ2 _) | exact quiet_add_left (unhide HQ2 _)))))
              go_wp2
              go_ret
              exact ⟨ret_bool HF.out.symm, bel⟩
          · have hfin : cardOk d f ss = false := cardOk_no hk' (by simp at h3; simp [stripOf, h3])
            have HF := Lib.hid hfin
            clear hfin
            go_wp2
            go_quiet (((first | (go_at_call 148; first | exact quiet_left (unhide HQ1 _) | exact quiet_add_left (unhide HQ1 _)) | (go_at_call 149; first | exact quiet_left (unhide HQ2 _) | exact quiet_add_left (unhide HQ2 _)))))
            go_wp2
            go_ret
            exact ⟨ret_bool HF.out.symm, bel⟩
        · have hk2 : k = n := by omega
          have ht : ss.take k = ss := List.take_of_length_le (by have := HL.out; omega)
          rw [ht] at hall
          have HF : Hid (cardOk d f ss = true) := by unfold Hid cardOk; rw [h1'.out, HL.out, h2'.out, hall]; rfl
          clear hall ht
          subst hk2
          go_wp2
          go_ret
          exact ⟨ret_bool HF.out.symm, bel⟩
end Go.Proofs.Yteffbjddgdjkmaa
