/- l40Number and the reference's ParseAct. -/
import Derived.Test.YtlimlolciekimaaDoorTxt2
namespace Go.Proofs.YtlimlolciekimaaDoor
open Go.ChangeShapes Go.WideShapes Go.ChangeAt Go.RowKit
set_option linter.unusedVariables false
set_option linter.unusedSimpArgs false
set_option maxRecDepth 10000

theorem infoI : (Tryd.prog.info? 3).map (fun i => (i.zero, i.size, i.bytes)) = some (some (.int .i64 0), 1, 8) := by kernel_rfl
def l40 (s : ByteArray) : Int := if 1 < s.size then (if s.data.toList.head? = some 45 then -(uintV (s.extract 1 s.size) : Int) else uintV s) else uintV s
theorem l40_num (n : Nat) (hn : n ≤ 1000000000) : l40 (numT n) = n := by
  have h1 := (uintOk_num hn).2
  have h2 : ¬ (numT n).data.toList.head? = some 45 := by
    intro h
    have hd : digL (numT n).data.toList = true := digL_dec n
    cases hq : (numT n).data.toList with
    | nil => rw [hq] at h; cases h
    | cons c r =>
      rw [hq] at h hd
      simp at h
      subst h
      unfold digL at hd
      simp at hd
  unfold l40
  rw [h1, if_neg h2]
  split <;> rfl
theorem l40_bd (s : ByteArray) : -1000000000 ≤ l40 s ∧ l40 s ≤ 1000000000 := by
  have h1 := uintV_le s
  have h2 := uintV_le (s.extract 1 s.size)
  unfold l40
  split
  · split <;> omega
  · omega
theorem head_45 {s : ByteArray} (h : 0 < s.size) : (s.data.toList.head? = some 45) = (s[0] = 45) := by
  have h2 : 0 < s.data.toList.length := by simpa using h
  have : s.data.toList.head? = some s[0] := by
    rw [List.head?_eq_getElem?, List.getElem?_eq_getElem h2]; rfl
  rw [this]; simp
set_option maxHeartbeats 1600000 in
theorem s_l40Number (s : ByteArray) (w : World) (hz : s.size ≤ 16777216) :
    Calls Tryd.prog 9 #[.string s] w fun e w' => e = .returned (.int .i64 (l40 s)) ∧ Below w.heap.size w w' := by
  have hv1 := uintV_le s
  have hv2 := uintV_le (s.extract 1 s.size)
  have hx : (s.extract 1 s.size).size ≤ 16777216 := by rw [ByteArray.size_extract]; omega
  by_cases h1 : 1 < s.size
  · have h0 : 0 < s.size := by omega
    by_cases h45 : s[0] = 45
    · have HL : Hid (l40 s = -(uintV (s.extract 1 s.size) : Int)) := by unfold Hid l40; rw [if_pos h1, if_pos (by rw [head_45 h0]; exact h45)]
      have b1 : ((s[0].toNat : Int) == 45) = true := by rw [h45]; rfl
      have hw : IntKind.i64.wrap (-(uintV (s.extract 1 s.size) : Int)) = -(uintV (s.extract 1 s.size) : Int) := by rw [IntKind.wrap_i64]; omega
      clear h45
      go_enter Tryd.func9, Tryd.ntmps9
      go_wp2_with fail
      refine (s_ParseUint _ _ hx).mono ?_
      rintro e w1 ⟨rfl, hb1⟩
      go_wp2
      go_ret
      rw [HL.out]
      exact ⟨rfl, hb1⟩
    · have HL : Hid (l40 s = (uintV s : Int)) := by unfold Hid l40; rw [if_pos h1, if_neg (by rw [head_45 h0]; exact h45)]
      have b1 : ((s[0].toNat : Int) == 45) = false := by rw [beq_eq_false_iff_ne]; intro h; exact h45 (UInt8.toNat_inj.1 (by show s[0].toNat = 45; omega))
      clear h45
      go_enter Tryd.func9, Tryd.ntmps9
      go_wp2_with fail
      refine (s_ParseUint _ _ hz).mono ?_
      rintro e w1 ⟨rfl, hb1⟩
      go_wp2
      go_ret
      rw [HL.out]
      exact ⟨rfl, hb1⟩
  · have HL : Hid (l40 s = (uintV s : Int)) := by unfold Hid l40; rw [if_neg h1]
    go_enter Tryd.func9, Tryd.ntmps9
    go_wp2_with fail
    refine (s_ParseUint _ _ hz).mono ?_
    rintro e w1 ⟨rfl, hb1⟩
    go_wp2
    go_ret
    rw [HL.out]
    exact ⟨rfl, hb1⟩
/-! joined fields -/
theorem joinB_succ {p : List ByteArray} {k : Nat} (hk : k < p.length) (h1 : 1 ≤ k) : joinB (p.take (k + 1)) = joinB (p.take k) ++ ⟨#[32]⟩ ++ p[k] := by
  cases p with
  | nil => simp at hk
  | cons x r =>
    obtain ⟨j, rfl⟩ : ∃ j, k = j + 1 := ⟨k - 1, by omega⟩
    have hj : j < r.length := by simpa using hk
    apply ba_ext
    simp only [List.take_succ_cons, joinB, List.map_cons, Lib.join_cons, ByteArray.data_append, Array.toList_append, List.getElem_cons_succ]
    rw [List.map_take, List.map_take, Lib.joinTail_take_succ [32] (r.map (·.data.toList)) j r[j].data.toList (by rw [List.getElem?_map, List.getElem?_eq_getElem hj]; rfl)]
    simp
theorem joinB_size {p : List ByteArray} {m : Nat} (h : ∀ x ∈ p, x.size ≤ m) : (joinB p).size ≤ p.length * (m + 1) := by
  cases p with
  | nil => show 0 ≤ _; omega
  | cons x r =>
    have hsz : (joinB (x :: r)).size = (joinB (x :: r)).data.toList.length := by rw [Array.length_toList]; rfl
    rw [hsz]
    show (Lib.join ((x :: r).map (·.data.toList)) [32]).length ≤ _
    rw [List.map_cons, Lib.join_length]
    have hl : ∀ (q : List ByteArray), (∀ x ∈ q, x.size ≤ m) → Lib.lens (q.map (·.data.toList)) ≤ q.length * m := by
      intro q
      induction q with
      | nil => intro _; simp [Lib.lens]
      | cons y q ih =>
        intro hq
        have h1 := hq y (by simp)
        have h2 := ih fun z hz => hq z (by simp [hz])
        have h3 : y.data.toList.length = y.size := by rw [Array.length_toList]; rfl
        unfold Lib.lens at h2 ⊢
        simp only [List.map_cons, List.sum_cons, List.length_cons]
        rw [Nat.add_mul, h3]
        omega
    have := hl (x :: r) h
    simp only [List.map_cons, List.length_cons, List.length_map] at this ⊢
    rw [Nat.mul_add]
    simp
    omega
theorem joinB_take_le {p : List ByteArray} {m : Nat} (h : ∀ x ∈ p, x.size ≤ m) (k : Nat) : (joinB (p.take k)).size ≤ p.length * (m + 1) := by
  have h1 := joinB_size (p := p.take k) (m := m) fun x hx => h x (List.mem_of_mem_take hx)
  have h2 : (p.take k).length ≤ p.length := by rw [List.length_take]; omega
  have h3 := Nat.mul_le_mul_right (m + 1) h2
  omega
theorem strs_own {w : World} {b n c m : Nat} {A : Option Addr} {p : List ByteArray} (h : w.ownsRow b 9 1 (.slice A n c) n (p.map Value.string)) (hn : n ≤ 16777216) (hs : ∀ x ∈ p, x.size ≤ m) (hm : m ≤ 16777216) : Strs w w.heap.size A n p :=
  strs_of_own h hn fun x hx => Nat.le_trans (hs x hx) hm
/-- the numbers that the reference reads -/
def numsS (p : List ByteArray) : List Int := (p.drop 1).map l40
def numS (p : List ByteArray) (i : Nat) : Int := (numsS p ++ [0, 0]).getD i 0
theorem parOk_S {p : List ByteArray} (hp : cleanP p) (h : parOk p = true) : (pN p 1 : Int) = numS p 0 ∧ (pN p 2 : Int) = numS p 1 := by
  unfold parOk at h
  simp only [Bool.and_eq_true, decide_eq_true_eq] at h
  obtain ⟨_, A, B, hA, hB, hA9, hB9⟩ := actOk_parts h.1
  have hd := act_det h.1 rfl
  generalize pN p 1 = a at *
  generalize pN p 2 = b at *
  generalize pK p = k at *
  have na := l40_num a (by omega)
  have nb := l40_num b (by omega)
  obtain ⟨hk, hx⟩ := h
  have hz := hd.2
  have key : ∀ q, actF k a b = q → (a : Int) = numS q 0 ∧ (b : Int) = numS q 1 := by
    intro q hq
    subst hq
    unfold pN at hz
    unfold numS numsS
    unfold actF at hz ⊢
    split at hz
    · rename_i q1
      rw [if_pos q1]
      have h1 : a = 0 := by have := hz.1; simp at this; rw [← this]; exact uintV_nil
      have h2 : b = 0 := by have := hz.2; simp at this; rw [← this]; exact uintV_nil
      subst h1 h2
      exact ⟨rfl, rfl⟩
    · rename_i q1
      rw [if_neg q1]
      split at hz
      · rename_i q2
        rw [if_pos q2]
        have h2 : b = 0 := by have := hz.2; simp at this; rw [← this]; exact uintV_nil
        subst h2
        simp [na]
      · rename_i q2
        rw [if_neg q2]
        simp [na, nb]
  exact key p hx
theorem numS_bd (p : List ByteArray) (i : Nat) : -1000000000 ≤ numS p i ∧ numS p i ≤ 1000000000 := by
  have h : ∀ x ∈ numsS p ++ [0, 0], -1000000000 ≤ x ∧ x ≤ 1000000000 := by
    intro x hx
    rcases List.mem_append.1 hx with hx | hx
    · unfold numsS at hx
      obtain ⟨y, _, rfl⟩ := List.mem_map.1 hx
      exact l40_bd y
    · simp at hx; subst hx; omega
  unfold numS
  rw [List.getD_eq_getElem?_getD]
  cases hq : (numsS p ++ [0, 0])[i]? with
  | none => simp
  | some x => exact h x (List.mem_of_getElem? hq)
/-- the act of kind k with these numbers has this text -/
def hitS (p : List ByteArray) (k : Nat) : Bool := actOk k (numS p 0) (numS p 1) && decide (actT k (numS p 0).toNat (numS p 1).toNat = joinB p)
theorem hitS_yes {p : List ByteArray} (hp : cleanP p) {k : Nat} (h : hitS p k = true) : parOk p = true ∧ pK p = k ∧ (pN p 1 : Int) = numS p 0 ∧ (pN p 2 : Int) = numS p 1 := by
  unfold hitS at h
  simp only [Bool.and_eq_true, decide_eq_true_eq] at h
  obtain ⟨_, A, B, hA, hB, _, _⟩ := actOk_parts h.1
  rw [hA, hB] at h ⊢
  simp only [Int.toNat_natCast] at h
  have h2 := (actT_iff hp k A B).1 h.2
  have h3 := act_det h.1 h2
  exact ⟨parOk_of h.1 h2, h3.1, by rw [h3.2.1], by rw [h3.2.2]⟩
theorem hitS_no {p : List ByteArray} (hp : cleanP p) (h : ∀ k, 1 ≤ k → k ≤ 8 → hitS p k = false) : parOk p = false := by
  cases hq : parOk p with
  | false => rfl
  | true =>
    obtain ⟨h1, h2⟩ := parOk_S hp hq
    have hq2 := hq
    unfold parOk at hq2
    simp only [Bool.and_eq_true, decide_eq_true_eq] at hq2
    obtain ⟨hk, _⟩ := actOk_parts hq2.1
    have := h (pK p) (by omega) (by omega)
    unfold hitS at this
    rw [← h1, ← h2, hq2.1, Int.toNat_natCast, Int.toNat_natCast, (actT_iff hp _ _ _).2 hq2.2] at this
    simp at this
theorem parRes_no {p : List ByteArray} (h : parOk p = false) : parRes p = ((0, 0, 0), false) := by unfold parRes; rw [h]; rfl
theorem parRes_yes {p : List ByteArray} (h : parOk p = true) : parRes p = ((pK p, pN p 1, pN p 2), true) := by unfold parRes; rw [h]; rfl
theorem parOk_badlen {p : List ByteArray} (h : ¬ (1 ≤ p.length ∧ p.length ≤ 3)) : parOk p = false := by
  cases hq : parOk p with
  | false => rfl
  | true => exact absurd (parOk_len hq) h
end Go.Proofs.YtlimlolciekimaaDoor
