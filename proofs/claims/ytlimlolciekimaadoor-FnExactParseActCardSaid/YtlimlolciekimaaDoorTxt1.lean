/- The plain law of ParseAct: numerals, fields, and the act that fields spell. -/
import Derived.Test.YtlimlolciekimaaDoorFmt2
import Derived.Lib.ItoaMem
import Derived.Lib.AtoiAll
import Derived.Lib.Fields
import Derived.Lib.Join
namespace Go.Proofs.YtlimlolciekimaaDoor
open Go.ChangeShapes Go.WideShapes Go.ChangeAt Go.RowKit
set_option linter.unusedVariables false
set_option linter.unusedSimpArgs false
set_option maxRecDepth 10000

/-! numerals -/
def digL (l : List UInt8) : Bool := l.all fun c => decide (48 ≤ c.toNat) && decide (c.toNat ≤ 57)
def decF (n : Nat) (l : List UInt8) : Nat := l.foldl (fun n c => 10 * n + (c.toNat - 48)) n
theorem decF_append (n : Nat) (l r : List UInt8) : decF n (l ++ r) = decF (decF n l) r := by unfold decF; rw [List.foldl_append]
theorem digL_append (l r : List UInt8) : digL (l ++ r) = (digL l && digL r) := by unfold digL; rw [List.all_append]
theorem ofNat48 {x : Nat} (h : x < 10) : (UInt8.ofNat (48 + x)).toNat = 48 + x := by
  rw [UInt8.toNat_ofNat']; omega
theorem digL_dec (n : Nat) : digL (Lib.decDigits n) = true := by
  induction n using Nat.strongRecOn with
  | ind n ih =>
    by_cases h : n < 10
    · rw [Lib.decDigits, dif_pos h]
      unfold digL
      simp only [List.all_cons, List.all_nil, Bool.and_true, ofNat48 h]
      simp; omega
    · rw [Lib.decDigits, dif_neg h, digL_append, ih (n / 10) (by omega)]
      unfold digL
      simp only [List.all_cons, List.all_nil, Bool.and_true, ofNat48 (Nat.mod_lt n (by decide : 0 < 10)), Bool.true_and]
      simp; omega
theorem decF_dec (n : Nat) : decF 0 (Lib.decDigits n) = n := by
  induction n using Nat.strongRecOn with
  | ind n ih =>
    by_cases h : n < 10
    · rw [Lib.decDigits, dif_pos h]
      show 10 * 0 + _ = _
      rw [ofNat48 h]; omega
    · rw [Lib.decDigits, dif_neg h, decF_append, ih (n / 10) (by omega)]
      show 10 * _ + _ = _
      rw [ofNat48 (Nat.mod_lt n (by decide : 0 < 10))]; omega
theorem dec_len {n : Nat} (h : n ≤ 1000000000) : (Lib.decDigits n).length ≤ 10 := by
  rw [Lib.decDigits_length]
  by_cases h9 : n < 10 ^ 9
  · by_cases h0 : n = 0
    · subst h0; rw [Lib.nDigits_small (by decide)]; decide
    · have h1 := Lib.decDigits_length n
      have : ∀ k u : Nat, u < 10 ^ (k + 1) → Lib.nDigits u ≤ k + 1 := by
        intro k
        induction k with
        | zero => intro u hu; rw [Lib.nDigits_small (by simpa using hu)]; decide
        | succ k ih =>
          intro u hu
          by_cases hs : u < 10
          · rw [Lib.nDigits_small hs]; omega
          · rw [Lib.nDigits_big hs]
            have := ih (u / 10) (by rw [Nat.pow_succ] at hu; omega)
            omega
      have := this 8 n h9
      omega
  · have : n = 1000000000 := by omega
    subst this
    rw [Lib.nDigits_unique 9 1000000000 (by decide) (by decide)]
    decide
/-- a text that is a numeral up to 1000000000 -/
def uintOk (s : ByteArray) : Bool := decide (s.size ≤ 10) && (digL s.data.toList && (decide (decF 0 s.data.toList ≤ 1000000000) && decide (numT (decF 0 s.data.toList) = s)))
def uintV (s : ByteArray) : Nat := if uintOk s = true then decF 0 s.data.toList else 0
theorem uintOk_num {n : Nat} (h : n ≤ 1000000000) : uintOk (numT n) = true ∧ uintV (numT n) = n := by
  have hd : (numT n).data.toList = Lib.decDigits n := rfl
  have hl : (numT n).size ≤ 10 := by
    have : (numT n).size = (numT n).data.toList.length := by rw [Array.length_toList]; rfl
    rw [this, hd]; exact dec_len h
  have h1 : uintOk (numT n) = true := by
    unfold uintOk
    rw [hd, decF_dec, digL_dec]
    simp [hl, h]
  refine ⟨h1, ?_⟩
  unfold uintV
  rw [if_pos h1, hd, decF_dec]
theorem uintOk_iff {s : ByteArray} : uintOk s = true ↔ ∃ n, n ≤ 1000000000 ∧ numT n = s := by
  constructor
  · intro h
    unfold uintOk at h
    simp only [Bool.and_eq_true, decide_eq_true_eq] at h
    exact ⟨_, h.2.2.1, h.2.2.2⟩
  · rintro ⟨n, hn, rfl⟩
    exact (uintOk_num hn).1
theorem uintV_le (s : ByteArray) : uintV s ≤ 1000000000 := by
  unfold uintV
  split
  · rename_i h
    unfold uintOk at h
    simp only [Bool.and_eq_true, decide_eq_true_eq] at h
    exact h.2.2.1
  · omega
theorem uintV_num {s : ByteArray} (h : uintOk s = true) : numT (uintV s) = s := by
  obtain ⟨n, hn, rfl⟩ := uintOk_iff.1 h
  rw [(uintOk_num hn).2]
theorem decF_mono (n : Nat) : ∀ l : List UInt8, n ≤ decF n l
  | [] => Nat.le_refl _
  | c :: l => by
    have h := decF_mono (10 * n + (c.toNat - 48)) l
    show n ≤ decF (10 * n + (c.toNat - 48)) l
    omega
theorem parse_dig : ∀ (l : List UInt8) (acc : Nat), digL l = true → decF acc l ≤ 1000000000 → Lib.parseUint10 acc l = .ok (decF acc l)
  | [], acc, _, _ => rfl
  | c :: r, acc, h, hb => by
    unfold digL at h
    simp only [List.all_cons, Bool.and_eq_true, decide_eq_true_eq] at h
    have hb' : decF (10 * acc + (c.toNat - 48)) r ≤ 1000000000 := hb
    have hm := decF_mono (10 * acc + (c.toNat - 48)) r
    rw [Lib.parseUint10, if_pos h.1, if_neg (by omega), if_neg (by omega), show acc * 10 + (c.toNat - 48) = 10 * acc + (c.toNat - 48) by omega]
    exact parse_dig r _ h.2 hb'
theorem atoi_yes {s : ByteArray} (h : uintOk s = true) : Lib.atoiAll s.data.toList = .ok (uintV s : Int) := by
  have hv : uintV s = decF 0 s.data.toList := by unfold uintV; rw [if_pos h]
  have hn := uintV_num h
  unfold uintOk at h
  simp only [Bool.and_eq_true, decide_eq_true_eq] at h
  have hp := parse_dig s.data.toList 0 h.2.1 h.2.2.1
  rw [← hv] at hp
  have hne : s.data.toList ≠ [] := by
    rw [← hn]
    show Lib.decDigits _ ≠ []
    intro e
    have := Lib.decDigits_length (uintV s)
    rw [e] at this
    have := Lib.nDigits_pos (uintV s)
    simp at *
    omega
  have hle := uintV_le s
  cases hl : s.data.toList with
  | nil => exact absurd hl hne
  | cons c r =>
    rw [hl] at hp
    have hdg := h.2.1
    rw [hl] at hdg
    unfold digL at hdg
    simp only [List.all_cons, Bool.and_eq_true, decide_eq_true_eq] at hdg
    have h43 : ¬ (c.toNat = 43 ∨ c.toNat = 45) := by omega
    have h45 : ¬ (c.toNat = 45) := by omega
    unfold Lib.atoiAll
    simp only [if_neg h43]
    unfold Lib.parseMag
    rw [if_neg (by simp), hp]
    simp only
    rw [if_neg (by omega), if_neg (fun q => h45 q.1), if_neg h45]
theorem atoi_back {s : ByteArray} {v : Int} (h : (⟨(Lib.itoa v).toArray⟩ : ByteArray) = s) (h0 : 0 ≤ v) (h1 : v ≤ 1000000000) : uintOk s = true := by
  obtain ⟨n, rfl⟩ := Int.eq_ofNat_of_zero_le h0
  refine uintOk_iff.2 ⟨n, by omega, ?_⟩
  rw [← h]
  show (⟨(Lib.decDigits n).toArray⟩ : ByteArray) = _
  rw [Lib.itoa_nonneg]
/-! fields -/
def cleanW (x : List UInt8) : Prop := x ≠ [] ∧ ∀ b ∈ x, Lib.isSp b = false
theorem fieldsGo_clean : ∀ (l cur : List UInt8), (∀ b ∈ cur, Lib.isSp b = false) → ∀ x ∈ Lib.fieldsGo cur l, cleanW x
  | [], cur, hc, x, hx => by
    unfold Lib.fieldsGo at hx
    cases cur with
    | nil => simp at hx
    | cons b r =>
      simp at hx
      subst hx
      exact ⟨by simp, hc⟩
  | b :: l, cur, hc, x, hx => by
    unfold Lib.fieldsGo at hx
    split at hx
    · split at hx
      · exact fieldsGo_clean l [] (by simp) x hx
      · rename_i hne
        rcases List.mem_cons.1 hx with rfl | hx
        · exact ⟨by rintro rfl; simp at hne, hc⟩
        · exact fieldsGo_clean l [] (by simp) x hx
    · rename_i hb
      refine fieldsGo_clean l (cur ++ [b]) ?_ x hx
      intro c hcm
      rcases List.mem_append.1 hcm with h | h
      · exact hc c h
      · simp at h; subst h; simpa using hb
theorem fields_clean (s : List UInt8) : ∀ x ∈ Lib.fields s, cleanW x := fieldsGo_clean s [] (by simp)
theorem fieldsGo_word : ∀ (x cur r : List UInt8), (∀ b ∈ x, Lib.isSp b = false) → Lib.fieldsGo cur (x ++ r) = Lib.fieldsGo (cur ++ x) r
  | [], cur, r, _ => by simp
  | b :: x, cur, r, h => by
    rw [List.cons_append, Lib.fieldsGo_more _ _ _ (h b (by simp)), fieldsGo_word x (cur ++ [b]) r fun c hc => h c (by simp [hc])]
    simp
theorem fields_tail : ∀ (r : List (List UInt8)) (x : List UInt8), cleanW x → (∀ y ∈ r, cleanW y) → Lib.fieldsGo x (Lib.joinTail [32] r) = x :: r
  | [], x, hx, _ => by
    show Lib.fieldsGo x [] = [x]
    unfold Lib.fieldsGo
    cases x with
    | nil => exact absurd rfl hx.1
    | cons _ _ => simp
  | y :: r, x, hx, hr => by
    have e : Lib.joinTail [32] (y :: r) = 32 :: (y ++ Lib.joinTail [32] r) := by simp [Lib.joinTail]
    have hy := hr y (by simp)
    rw [e, Lib.fieldsGo_end x 32 _ (by decide) hx.1, fieldsGo_word y [] _ hy.2, List.nil_append, fields_tail r y hy fun z hz => hr z (by simp [hz])]
theorem fields_join (p : List (List UInt8)) (h : ∀ x ∈ p, cleanW x) : Lib.fields (Lib.join p [32]) = p := by
  cases p with
  | nil => rfl
  | cons x r =>
    have hx := h x (by simp)
    rw [Lib.join_cons]
    unfold Lib.fields
    rw [fieldsGo_word x [] _ hx.2, List.nil_append, fields_tail r x hx fun z hz => h z (by simp [hz])]
/-- the fields of a line -/
def flds (s : ByteArray) : List ByteArray := (Lib.fields s.data.toList).map fun l => ⟨l.toArray⟩
def fldOk (s : ByteArray) : Bool := decide (s.size ≤ 600) && (s.data.toList.all (fun c => decide (32 ≤ c.toNat) && decide (c.toNat ≤ 126)) && decide ((flds s).length ≤ 24))
def cleanP (p : List ByteArray) : Prop := ∀ x ∈ p, cleanW x.data.toList
theorem flds_clean (s : ByteArray) : cleanP (flds s) := by
  intro x hx
  unfold flds at hx
  obtain ⟨l, hl, rfl⟩ := List.mem_map.1 hx
  simpa using fields_clean _ l hl
def joinB (p : List ByteArray) : ByteArray := ⟨(Lib.join (p.map (·.data.toList)) [32]).toArray⟩
theorem joinB_inj {p q : List ByteArray} (hp : cleanP p) (hq : cleanP q) (h : joinB p = joinB q) : p = q := by
  have h2 : Lib.join (p.map (·.data.toList)) [32] = Lib.join (q.map (·.data.toList)) [32] := by
    have := congrArg (fun x : ByteArray => x.data.toList) h
    simpa [joinB] using this
  have h3 := congrArg Lib.fields h2
  rw [fields_join _ (by intro x hx; obtain ⟨y, hy, rfl⟩ := List.mem_map.1 hx; exact hp y hy), fields_join _ (by intro x hx; obtain ⟨y, hy, rfl⟩ := List.mem_map.1 hx; exact hq y hy)] at h3
  have inj : Function.Injective (fun x : ByteArray => x.data.toList) := fun a b h => ba_ext h
  exact List.map_inj_right (fun _ _ h => inj h) |>.1 h3
/-! acts as fields -/
def actF (k a b : Nat) : List ByteArray := if wordN k = 0 then [wordT k] else if wordN k = 1 then [wordT k, numT a] else [wordT k, numT a, numT b]
theorem actF_len (k a b : Nat) : 1 ≤ (actF k a b).length ∧ (actF k a b).length ≤ 3 := by
  unfold actF; split
  · exact ⟨by simp, by simp⟩
  · split <;> exact ⟨by simp, by simp⟩
theorem actF_head (k a b : Nat) : (actF k a b).getD 0 ⟨#[]⟩ = wordT k := by
  unfold actF; split
  · rfl
  · split <;> rfl
theorem joinB_one (x : ByteArray) : joinB [x] = x := by apply ba_ext; simp [joinB, Lib.join_one]
theorem joinB_two (x y : ByteArray) : joinB [x, y] = x ++ (⟨#[32]⟩ ++ y) := by
  apply ba_ext; simp [joinB, Lib.join_cons, Lib.joinTail, ByteArray.data_append]
theorem joinB_three (x y z : ByteArray) : joinB [x, y, z] = x ++ (⟨#[32]⟩ ++ y) ++ (⟨#[32]⟩ ++ z) := by
  apply ba_ext; simp [joinB, Lib.join_cons, Lib.joinTail, ByteArray.data_append]
theorem actT_join (k a b : Nat) : actT k a b = joinB (actF k a b) := by
  unfold actT actF
  split
  · rw [joinB_one]
  · split
    · rw [joinB_two]
    · rw [joinB_three]
theorem digL_clean {l : List UInt8} (h : digL l = true) (h0 : l ≠ []) : cleanW l := by
  refine ⟨h0, fun b hb => ?_⟩
  unfold digL at h
  rw [List.all_eq_true] at h
  have := h b hb
  simp only [Bool.and_eq_true, decide_eq_true_eq] at this
  unfold Lib.isSp
  simp only [Bool.or_eq_false_iff, beq_eq_false_iff_ne]
  refine ⟨⟨⟨⟨⟨?_, ?_⟩, ?_⟩, ?_⟩, ?_⟩, ?_⟩ <;> (rintro rfl; revert this; decide)
theorem num_clean (n : Nat) : cleanW (numT n).data.toList := by
  refine digL_clean (digL_dec n) ?_
  intro e
  have h1 : Lib.decDigits n = [] := e
  have := Lib.decDigits_length n
  rw [h1] at this
  have := Lib.nDigits_pos n
  simp at *
  omega
theorem word_clean : ∀ k, cleanW (wordT k).data.toList := by
  intro k
  unfold wordT
  split <;> exact ⟨by decide, by decide⟩
theorem actF_clean (k a b : Nat) : cleanP (actF k a b) := by
  intro x hx
  unfold actF at hx
  split at hx
  · simp at hx; subst hx; exact word_clean k
  · split at hx
    · simp at hx; rcases hx with rfl | rfl
      · exact word_clean k
      · exact num_clean a
    · simp at hx; rcases hx with rfl | rfl | rfl
      · exact word_clean k
      · exact num_clean a
      · exact num_clean b
theorem actT_iff {p : List ByteArray} (hp : cleanP p) (k a b : Nat) : actT k a b = joinB p ↔ actF k a b = p := by
  rw [actT_join]
  exact ⟨fun h => joinB_inj (actF_clean k a b) hp h, fun h => by rw [h]⟩
def kindTo : Nat → ByteArray → Nat
  | 0, _ => 0
  | j + 1, x => if wordT (j + 1) = x then j + 1 else kindTo j x
theorem kindTo_le : ∀ (j : Nat) (x : ByteArray), kindTo j x ≤ j
  | 0, _ => Nat.le_refl _
  | j + 1, x => by
    have := kindTo_le j x
    unfold kindTo; split <;> omega
theorem word_inj : ∀ i j : Fin 8, wordT (i.val + 1) = wordT (j.val + 1) → i = j := by decide
theorem kind_word {k : Nat} (h1 : 1 ≤ k) (h8 : k ≤ 8) : kindTo 8 (wordT k) = k := by
  obtain rfl | rfl | rfl | rfl | rfl | rfl | rfl | rfl : k = 1 ∨ k = 2 ∨ k = 3 ∨ k = 4 ∨ k = 5 ∨ k = 6 ∨ k = 7 ∨ k = 8 := by omega
  all_goals decide
def pK (p : List ByteArray) : Nat := kindTo 8 (p.getD 0 ⟨#[]⟩)
def pN (p : List ByteArray) (i : Nat) : Nat := uintV (p.getD i ⟨#[]⟩)
theorem uintV_nil : uintV ⟨#[]⟩ = 0 := by
  unfold uintV
  rw [if_neg]
  intro h
  obtain ⟨n, hn, h2⟩ := uintOk_iff.1 h
  have := num_clean n
  rw [h2] at this
  exact this.1 rfl
/-- the act that fields spell, if any -/
def parOk (p : List ByteArray) : Bool := actOk (pK p) (pN p 1) (pN p 2) && decide (actF (pK p) (pN p 1) (pN p 2) = p)
theorem act_det {p : List ByteArray} {k a b : Nat} (h : actOk k a b = true) (hp : actF k a b = p) : pK p = k ∧ pN p 1 = a ∧ pN p 2 = b := by
  obtain ⟨hk, A, B, hA, hB, hA9, hB9⟩ := actOk_parts h
  have h0 : pK p = k := by
    unfold pK
    rw [← hp, actF_head]
    exact kind_word (by omega) (by omega)
  have na := (uintOk_num (n := a) (by omega)).2
  have nb := (uintOk_num (n := b) (by omega)).2
  refine ⟨h0, ?_, ?_⟩
  · unfold pN
    rw [← hp]
    unfold actF
    split
    · rename_i hw
      have : a = 0 := by
        unfold wordN at hw
        unfold actOk at h
        rcases hk with hk | hk | hk | hk | hk | hk | hk | hk <;> (have hk' : k = _ := Int.ofNat_inj.1 hk) <;> subst hk' <;> simp_all
      subst this
      exact uintV_nil
    · split <;> exact na
  · unfold pN
    rw [← hp]
    unfold actF
    split
    · rename_i hw
      have : b = 0 := by
        unfold wordN at hw
        unfold actOk at h
        rcases hk with hk | hk | hk | hk | hk | hk | hk | hk <;> (have hk' : k = _ := Int.ofNat_inj.1 hk) <;> subst hk' <;> simp_all
      subst this
      exact uintV_nil
    · split
      · rename_i hw
        have : b = 0 := by
          unfold wordN at hw
          unfold actOk at h
          rcases hk with hk | hk | hk | hk | hk | hk | hk | hk <;> (have hk' : k = _ := Int.ofNat_inj.1 hk) <;> subst hk' <;> simp_all
        subst this
        exact uintV_nil
      · exact nb
theorem parOk_of {p : List ByteArray} {k a b : Nat} (h : actOk k a b = true) (hp : actF k a b = p) : parOk p = true := by
  obtain ⟨h1, h2, h3⟩ := act_det h hp
  unfold parOk
  rw [h1, h2, h3, h, hp]; simp
theorem parOk_len {p : List ByteArray} (h : parOk p = true) : 1 ≤ p.length ∧ p.length ≤ 3 := by
  unfold parOk at h
  simp only [Bool.and_eq_true, decide_eq_true_eq] at h
  have := actF_len (pK p) (pN p 1) (pN p 2)
  rwa [h.2] at this
theorem parOk_num {p : List ByteArray} (h : parOk p = true) {i : Nat} (hi : i < p.length) (h1 : 1 ≤ i) : uintOk p[i] = true := by
  unfold parOk at h
  simp only [Bool.and_eq_true, decide_eq_true_eq] at h
  obtain ⟨_, A, B, hA, hB, _, _⟩ := actOk_parts h.1
  have h2 := h.2
  have hl := (actF_len (pK p) (pN p 1) (pN p 2)).2
  rw [h2] at hl
  have na := (uintOk_num (n := pN p 1) (by omega)).1
  have nb := (uintOk_num (n := pN p 2) (by omega)).1
  generalize pN p 1 = a at *
  generalize pN p 2 = b at *
  generalize pK p = k at *
  subst h2
  unfold actF at hi ⊢
  split at hi
  · simp at hi; omega
  · split at hi
    · rename_i q1 q2
      simp at hi
      have : i = 1 := by omega
      subst this
      simp only [if_neg q1, if_pos q2]
      exact na
    · rename_i q1 q2
      simp at hi
      simp only [if_neg q1, if_neg q2]
      obtain rfl | rfl : i = 1 ∨ i = 2 := by omega
      · exact na
      · exact nb
def parRes (p : List ByteArray) : (Nat × Nat × Nat) × Bool := if parOk p = true then ((pK p, pN p 1, pN p 2), true) else ((0, 0, 0), false)
/-! the reference's loop over a line -/
def SpI (s : ByteArray) (i b : Nat) (xs : List ByteArray) : Prop :=
  b ≤ i ∧ i ≤ s.size ∧ xs.map (·.data.toList) ++ Lib.fieldsGo ((s.data.toList.take i).drop b) (s.data.toList.drop i) = Lib.fields s.data.toList ∧ xs.length ≤ i ∧ ∀ x ∈ xs, x.size ≤ s.size
theorem SpI.start (s : ByteArray) : SpI s 0 0 [] := ⟨Nat.le_refl _, Nat.zero_le _, by simp [Lib.fields], Nat.zero_le _, by simp⟩
theorem sp_take {s : ByteArray} {i b : Nat} (hi : i < s.size) (hb : b ≤ i) : (s.data.toList.take (i + 1)).drop b = (s.data.toList.take i).drop b ++ [s[i]] := by
  rw [take_snoc s i hi, List.drop_append_of_le_length (by rw [List.length_take]; simp; omega)]
theorem sp_drop {s : ByteArray} {i : Nat} (hi : i < s.size) : s.data.toList.drop i = s[i] :: s.data.toList.drop (i + 1) := by
  rw [List.drop_eq_getElem_cons (by simpa using hi)]; rfl
theorem sp_ext {s : ByteArray} {i b : Nat} (hi : i ≤ s.size) : (s.extract b i).data.toList = (s.data.toList.take i).drop b := by
  simp [ByteArray.data_extract, Array.toList_extract, List.drop_take]
theorem sp_empty {s : ByteArray} {i b : Nat} (hb : ¬ b < i) : (s.data.toList.take i).drop b = [] := by
  rw [List.drop_eq_nil_iff, List.length_take]; omega
theorem sp_some {s : ByteArray} {i b : Nat} (hi : i ≤ s.size) (hb : b < i) : (s.data.toList.take i).drop b ≠ [] := by
  intro h
  rw [List.drop_eq_nil_iff, List.length_take] at h
  have : s.data.toList.length = s.size := by simp
  omega
theorem SpI.more {s : ByteArray} {i b : Nat} {xs : List ByteArray} (h : SpI s i b xs) (hi : i < s.size) (hc : Lib.isSp s[i] = false) : SpI s (i + 1) b xs := by
  obtain ⟨h1, h2, h3, h4, h5⟩ := h
  refine ⟨by omega, by omega, ?_, by omega, h5⟩
  rw [sp_take hi h1, ← h3, sp_drop hi, Lib.fieldsGo_more _ _ _ hc]
theorem SpI.gap {s : ByteArray} {i b : Nat} {xs : List ByteArray} (h : SpI s i b xs) (hi : i < s.size) (hc : Lib.isSp s[i] = true) (hb : ¬ b < i) : SpI s (i + 1) (i + 1) xs := by
  obtain ⟨h1, h2, h3, h4, h5⟩ := h
  refine ⟨Nat.le_refl _, by omega, ?_, by omega, h5⟩
  rw [sp_empty (Nat.lt_irrefl _), ← h3, sp_empty hb, sp_drop hi, Lib.fieldsGo_sp _ _ hc]
theorem SpI.word {s : ByteArray} {i b : Nat} {xs : List ByteArray} (h : SpI s i b xs) (hi : i < s.size) (hc : Lib.isSp s[i] = true) (hb : b < i) : SpI s (i + 1) (i + 1) (xs ++ [s.extract b i]) := by
  obtain ⟨h1, h2, h3, h4, h5⟩ := h
  refine ⟨Nat.le_refl _, by omega, ?_, by simp; omega, ?_⟩
  · rw [sp_empty (Nat.lt_irrefl _), ← h3, List.map_append, sp_drop hi, Lib.fieldsGo_end _ _ _ hc (sp_some h2 hb)]
    simp only [List.map_cons, List.map_nil]
    rw [sp_ext h2]; simp
  · intro x hx
    rcases List.mem_append.1 hx with hx | hx
    · exact h5 x hx
    · simp at hx; subst hx; rw [ByteArray.size_extract]; omega
theorem flds_of {s : ByteArray} {xs : List ByteArray} (h : xs.map (·.data.toList) = Lib.fields s.data.toList) : xs = flds s := by
  unfold flds
  rw [← h, List.map_map]
  symm
  refine (List.map_congr_left fun x _ => ?_).trans (List.map_id _)
  apply ba_ext; simp
theorem SpI.end_gap {s : ByteArray} {b : Nat} {xs : List ByteArray} (h : SpI s s.size b xs) (hb : ¬ b < s.size) : xs = flds s := by
  obtain ⟨h1, h2, h3, h4, h5⟩ := h
  rw [sp_empty hb, List.drop_of_length_le (by simp)] at h3
  exact flds_of (by rw [← h3]; simp [Lib.fieldsGo])
theorem SpI.end_word {s : ByteArray} {b : Nat} {xs : List ByteArray} (h : SpI s s.size b xs) (hb : b < s.size) : xs ++ [s.extract b s.size] = flds s := by
  obtain ⟨h1, h2, h3, h4, h5⟩ := h
  have hne := sp_some h2 hb
  refine flds_of ?_
  rw [← h3, List.map_append, List.drop_of_length_le (show s.data.toList.length ≤ s.size by simp)]
  simp only [List.map_cons, List.map_nil]
  rw [sp_ext h2]
  unfold Lib.fieldsGo
  cases hq : (s.data.toList.take s.size).drop b with
  | nil => exact absurd hq hne
  | cons _ _ => simp
theorem flds_len (s : ByteArray) : (flds s).length ≤ s.size := by
  unfold flds
  rw [List.length_map, Lib.fields_length]
  have : ∀ (l : List UInt8) (b : Bool), Lib.cntF b l ≤ l.length := by
    intro l
    induction l with
    | nil => intro b; exact Nat.le_refl _
    | cons x l ih => intro b; have := ih (Lib.isSp x); unfold Lib.cntF; simp; split <;> omega
  have h := this s.data.toList true
  simpa using h
theorem fieldsGo_size : ∀ (l cur : List UInt8), ∀ x ∈ Lib.fieldsGo cur l, x.length ≤ cur.length + l.length
  | [], cur, x, hx => by
    unfold Lib.fieldsGo at hx
    split at hx
    · cases hx
    · simp at hx; subst hx; omega
  | b :: l, cur, x, hx => by
    unfold Lib.fieldsGo at hx
    split at hx
    · split at hx
      · have := fieldsGo_size l [] x hx; simp at this ⊢; omega
      · rcases List.mem_cons.1 hx with rfl | hx
        · omega
        · have := fieldsGo_size l [] x hx; simp at this ⊢; omega
    · have := fieldsGo_size l (cur ++ [b]) x hx; simp at this ⊢; omega
theorem flds_size {s x : ByteArray} (hx : x ∈ flds s) : x.size ≤ s.size := by
  unfold flds at hx
  obtain ⟨l, hl, rfl⟩ := List.mem_map.1 hx
  have := fieldsGo_size s.data.toList [] l hl
  simp at this
  exact this
/-- a printable byte -/
def pr (c : UInt8) : Bool := decide (32 ≤ c.toNat) && decide (c.toNat ≤ 126)
theorem pr_sp {c : UInt8} (h : pr c = true) : Lib.isSp c = (c == 32) := by
  unfold pr at h
  simp only [Bool.and_eq_true, decide_eq_true_eq] at h
  unfold Lib.isSp
  have h1 : ∀ k : UInt8, k.toNat < 32 → (c == k) = false := by
    intro k hk
    rw [beq_eq_false_iff_ne]; rintro rfl; omega
  rw [h1 9 (by decide), h1 10 (by decide), h1 11 (by decide), h1 12 (by decide), h1 13 (by decide)]
  rfl
theorem fldOk_iff {s : ByteArray} : fldOk s = true ↔ s.size ≤ 600 ∧ (∀ i (h : i < s.size), pr s[i] = true) ∧ (flds s).length ≤ 24 := by
  unfold fldOk
  rw [Bool.and_eq_true, Bool.and_eq_true, decide_eq_true_eq, decide_eq_true_eq, List.all_eq_true]
  refine ⟨fun ⟨h1, h2, h3⟩ => ⟨h1, fun i hi => ?_, h3⟩, fun ⟨h1, h2, h3⟩ => ⟨h1, fun c hc => ?_, h3⟩⟩
  · have := h2 s[i] (by have : s[i] = s.data.toList[i]'(by simpa using hi) := rfl; rw [this]; exact List.getElem_mem _)
    exact this
  · obtain ⟨i, hi, rfl⟩ := List.getElem_of_mem hc
    have := h2 i (by simpa using hi)
    unfold pr at this
    exact this
theorem fldOk_long {s : ByteArray} (h : 600 < s.size) : fldOk s = false := by
  cases hq : fldOk s with
  | false => rfl
  | true => have := (fldOk_iff.1 hq).1; omega
theorem fldOk_bad {s : ByteArray} {i : Nat} (hi : i < s.size) (h : pr s[i] = false) : fldOk s = false := by
  cases hq : fldOk s with
  | false => rfl
  | true => have := (fldOk_iff.1 hq).2.1 i hi; rw [h] at this; cases this
theorem fldOk_many {s : ByteArray} (h : 24 < (flds s).length) : fldOk s = false := by
  cases hq : fldOk s with
  | false => rfl
  | true => have := (fldOk_iff.1 hq).2.2; omega
theorem okT {s : ByteArray} {i : Nat} (h : ∀ k (hk : k < s.size), k < i → pr s[k] = true) (hi : i < s.size) (h2 : pr s[i] = true) : ∀ k (hk : k < s.size), k < i + 1 → pr s[k] = true := by
  intro k hk hki
  by_cases h3 : k < i
  · exact h k hk h3
  · have : k = i := by omega
    subst this; exact h2
end Go.Proofs.YtlimlolciekimaaDoor
