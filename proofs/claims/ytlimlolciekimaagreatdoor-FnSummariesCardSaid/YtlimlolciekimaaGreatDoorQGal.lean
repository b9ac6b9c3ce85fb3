/- Contracts of the program's and the reference's functions (Txt1, Txt2, Txt3). -/
import Derived.Lib.AtoiAll
import Derived.Lib.AtoiErrMem
import Derived.Lib.Fields
import Derived.Lib.ItoaMem
import Derived.Lib.Join
import Derived.Test.YtlimlolciekimaaGreatDoorRows
import Derived.Test.YtlimlolciekimaaGreatDoorQGak
import Derived.Test.YtlimlolciekimaaGreatDoorQGa
namespace Go.Proofs.YtlimlolciekimaaGreatDoor
open Go.ChangeShapes Go.WideShapes Go.ChangeAt Go.RowKit
set_option linter.unusedVariables false
set_option linter.unusedSimpArgs false
set_option maxRecDepth 10000
def digL (l : List UInt8) : Bool := l.all fun c => decide (48 ≤ c.toNat) && decide (c.toNat ≤ 57)
def decF (n : Nat) (l : List UInt8) : Nat := l.foldl (fun n c => 10 * n + (c.toNat - 48)) n
theorem decF_append (n : Nat) (l r : List UInt8) : decF n (l ++ r) = decF (decF n l) r := by unfold decF; rw [List.foldl_append]
theorem digL_append (l r : List UInt8) : digL (l ++ r) = (digL l && digL r) := by unfold digL; rw [List.all_append]
theorem ofNat48 {x : Nat} (h : x < 10) : (UInt8.ofNat (48 + x)).toNat = 48 + x := by
  rw [UInt8.toNat_ofNat']; omega
theorem digL_dec (n : Nat) : digL (Lib.decDigits n) = true := by
  induction n using Nat.strongRecOn with
  | ind n ih =>
    by_cases h : n < 10
    · rw [Lib.decDigits, dif_pos h]
      unfold digL
      simp only [List.all_cons, List.all_nil, Bool.and_true, ofNat48 h]
      simp; omega
    · rw [Lib.decDigits, dif_neg h, digL_append, ih (n / 10) (by omega)]
      unfold digL
      simp only [List.all_cons, List.all_nil, Bool.and_true, ofNat48 (Nat.mod_lt n (by decide : 0 < 10)), Bool.true_and]
      simp; omega
theorem decF_dec (n : Nat) : decF 0 (Lib.decDigits n) = n := by
  induction n using Nat.strongRecOn with
  | ind n ih =>
    by_cases h : n < 10
    · rw [Lib.decDigits, dif_pos h]
      show 10 * 0 + _ = _
      rw [ofNat48 h]; omega
    · rw [Lib.decDigits, dif_neg h, decF_append, ih (n / 10) (by omega)]
      show 10 * _ + _ = _
      rw [ofNat48 (Nat.mod_lt n (by decide : 0 < 10))]; omega
theorem dec_len {n : Nat} (h : n ≤ 1000000000) : (Lib.decDigits n).length ≤ 10 := by
  rw [Lib.decDigits_length]
  by_cases h9 : n < 10 ^ 9
  · by_cases h0 : n = 0
    · subst h0; rw [Lib.nDigits_small (by decide)]; decide
    · have h1 := Lib.decDigits_length n
      have : ∀ k u : Nat, u < 10 ^ (k + 1) → Lib.nDigits u ≤ k + 1 := by
        intro k
        induction k with
        | zero => intro u hu; rw [Lib.nDigits_small (by simpa using hu)]; decide
        | succ k ih =>
          intro u hu
          by_cases hs : u < 10
          · rw [Lib.nDigits_small hs]; omega
          · rw [Lib.nDigits_big hs]
            have := ih (u / 10) (by rw [Nat.pow_succ] at hu; omega)
            omega
      have := this 8 n h9
      omega
  · have : n = 1000000000 := by omega
    subst this
    rw [Lib.nDigits_unique 9 1000000000 (by decide) (by decide)]
    decide
def uintOk (s : ByteArray) : Bool := decide (s.size ≤ 10) && (digL s.data.toList && (decide (decF 0 s.data.toList ≤ 1000000000) && decide (numT (decF 0 s.data.toList) = s)))
def uintV (s : ByteArray) : Nat := if uintOk s = true then decF 0 s.data.toList else 0
theorem uintOk_num {n : Nat} (h : n ≤ 1000000000) : uintOk (numT n) = true ∧ uintV (numT n) = n := by
  have hd : (numT n).data.toList = Lib.decDigits n := rfl
  have hl : (numT n).size ≤ 10 := by
    have : (numT n).size = (numT n).data.toList.length := by rw [Array.length_toList]; rfl
    rw [this, hd]; exact dec_len h
  have h1 : uintOk (numT n) = true := by
    unfold uintOk
    rw [hd, decF_dec, digL_dec]
    simp [hl, h]
  refine ⟨h1, ?_⟩
  unfold uintV
  rw [if_pos h1, hd, decF_dec]
theorem uintOk_iff {s : ByteArray} : uintOk s = true ↔ ∃ n, n ≤ 1000000000 ∧ numT n = s := by
  constructor
  · intro h
    unfold uintOk at h
    simp only [Bool.and_eq_true, decide_eq_true_eq] at h
    exact ⟨_, h.2.2.1, h.2.2.2⟩
  · rintro ⟨n, hn, rfl⟩
    exact (uintOk_num hn).1
theorem uintV_le (s : ByteArray) : uintV s ≤ 1000000000 := by
  unfold uintV
  split
  · rename_i h
    unfold uintOk at h
    simp only [Bool.and_eq_true, decide_eq_true_eq] at h
    exact h.2.2.1
  · omega
theorem uintV_num {s : ByteArray} (h : uintOk s = true) : numT (uintV s) = s := by
  obtain ⟨n, hn, rfl⟩ := uintOk_iff.1 h
  rw [(uintOk_num hn).2]
theorem decF_mono (n : Nat) : ∀ l : List UInt8, n ≤ decF n l
  | [] => Nat.le_refl _
  | c :: l => by
    have h := decF_mono (10 * n + (c.toNat - 48)) l
    show n ≤ decF (10 * n + (c.toNat - 48)) l
    omega
theorem parse_dig : ∀ (l : List UInt8) (acc : Nat), digL l = true → decF acc l ≤ 1000000000 → Lib.parseUint10 acc l = .ok (decF acc l)
  | [], acc, _, _ => rfl
  | c :: r, acc, h, hb => by
    unfold digL at h
    simp only [List.all_cons, Bool.and_eq_true, decide_eq_true_eq] at h
    have hb' : decF (10 * acc + (c.toNat - 48)) r ≤ 1000000000 := hb
    have hm := decF_mono (10 * acc + (c.toNat - 48)) r
    rw [Lib.parseUint10, if_pos h.1, if_neg (by omega), if_neg (by omega), show acc * 10 + (c.toNat - 48) = 10 * acc + (c.toNat - 48) by omega]
    exact parse_dig r _ h.2 hb'
theorem atoi_yes {s : ByteArray} (h : uintOk s = true) : Lib.atoiAll s.data.toList = .ok (uintV s : Int) := by
  have hv : uintV s = decF 0 s.data.toList := by unfold uintV; rw [if_pos h]
  have hn := uintV_num h
  unfold uintOk at h
  simp only [Bool.and_eq_true, decide_eq_true_eq] at h
  have hp := parse_dig s.data.toList 0 h.2.1 h.2.2.1
  rw [← hv] at hp
  have hne : s.data.toList ≠ [] := by
    rw [← hn]
    show Lib.decDigits _ ≠ []
    intro e
    have := Lib.decDigits_length (uintV s)
    rw [e] at this
    have := Lib.nDigits_pos (uintV s)
    simp at *
    omega
  have hle := uintV_le s
  cases hl : s.data.toList with
  | nil => exact absurd hl hne
  | cons c r =>
    rw [hl] at hp
    have hdg := h.2.1
    rw [hl] at hdg
    unfold digL at hdg
    simp only [List.all_cons, Bool.and_eq_true, decide_eq_true_eq] at hdg
    have h43 : ¬ (c.toNat = 43 ∨ c.toNat = 45) := by omega
    have h45 : ¬ (c.toNat = 45) := by omega
    unfold Lib.atoiAll
    simp only [if_neg h43]
    unfold Lib.parseMag
    rw [if_neg (by simp), hp]
    simp only
    rw [if_neg (by omega), if_neg (fun q => h45 q.1), if_neg h45]
def cleanW (x : List UInt8) : Prop := x ≠ [] ∧ ∀ b ∈ x, Lib.isSp b = false
def flds (s : ByteArray) : List ByteArray := (Lib.fields s.data.toList).map fun l => ⟨l.toArray⟩
def fldOk (s : ByteArray) : Bool := decide (s.size ≤ 600) && (s.data.toList.all (fun c => decide (32 ≤ c.toNat) && decide (c.toNat ≤ 126)) && decide ((flds s).length ≤ 24))
def cleanP (p : List ByteArray) : Prop := ∀ x ∈ p, cleanW x.data.toList
def joinB (p : List ByteArray) : ByteArray := ⟨(Lib.join (p.map (·.data.toList)) [32]).toArray⟩
def actF (k a b : Nat) : List ByteArray := if wordN k = 0 then [wordT k] else if wordN k = 1 then [wordT k, numT a] else [wordT k, numT a, numT b]
def kindTo : Nat → ByteArray → Nat
  | 0, _ => 0
  | j + 1, x => if wordT (j + 1) = x then j + 1 else kindTo j x
def pK (p : List ByteArray) : Nat := kindTo 8 (p.getD 0 ⟨#[]⟩)
def pN (p : List ByteArray) (i : Nat) : Nat := uintV (p.getD i ⟨#[]⟩)
def parOk (p : List ByteArray) : Bool := actOk (pK p) (pN p 1) (pN p 2) && decide (actF (pK p) (pN p 1) (pN p 2) = p)
def parRes (p : List ByteArray) : (Nat × Nat × Nat) × Bool := if parOk p = true then ((pK p, pN p 1, pN p 2), true) else ((0, 0, 0), false)
def SpI (s : ByteArray) (i b : Nat) (xs : List ByteArray) : Prop :=
  b ≤ i ∧ i ≤ s.size ∧ xs.map (·.data.toList) ++ Lib.fieldsGo ((s.data.toList.take i).drop b) (s.data.toList.drop i) = Lib.fields s.data.toList ∧ xs.length ≤ i ∧ ∀ x ∈ xs, x.size ≤ s.size
def pr (c : UInt8) : Bool := decide (32 ≤ c.toNat) && decide (c.toNat ≤ 126)
end Go.Proofs.YtlimlolciekimaaGreatDoor
namespace Go.Proofs.YtlimlolciekimaaGreatDoor
open Go.ChangeShapes Go.WideShapes Go.ChangeAt Go.RowKit
set_option linter.unusedVariables false
set_option linter.unusedSimpArgs false
set_option maxRecDepth 10000
structure Errs (w : World) : Prop where
  syn : ∃ t p, w.var? Tryz.prog "strconv.ErrSyntax" = some #[.iface t p]
  ran : ∃ t p, w.var? Tryz.prog "strconv.ErrRange" = some #[.iface t p]
  asc : Lib.TabIs Tryz.prog w "strings.asciiSpace" .u8 Lib.asciiSpaceTab
  tab : Tab w
end Go.Proofs.YtlimlolciekimaaGreatDoor
namespace Go.Proofs.YtlimlolciekimaaGreatDoor
open Go.ChangeShapes Go.WideShapes Go.ChangeAt Go.RowKit
set_option linter.unusedVariables false
set_option linter.unusedSimpArgs false
set_option maxRecDepth 10000
def l40 (s : ByteArray) : Int := if 1 < s.size then (if s.data.toList.head? = some 45 then -(uintV (s.extract 1 s.size) : Int) else uintV s) else uintV s
theorem joinB_size {p : List ByteArray} {m : Nat} (h : ∀ x ∈ p, x.size ≤ m) : (joinB p).size ≤ p.length * (m + 1) := by
  cases p with
  | nil => show 0 ≤ _; omega
  | cons x r =>
    have hsz : (joinB (x :: r)).size = (joinB (x :: r)).data.toList.length := by rw [Array.length_toList]; rfl
    rw [hsz]
    show (Lib.join ((x :: r).map (·.data.toList)) [32]).length ≤ _
    rw [List.map_cons, Lib.join_length]
    have hl : ∀ (q : List ByteArray), (∀ x ∈ q, x.size ≤ m) → Lib.lens (q.map (·.data.toList)) ≤ q.length * m := by
      intro q
      induction q with
      | nil => intro _; simp [Lib.lens]
      | cons y q ih =>
        intro hq
        have h1 := hq y (by simp)
        have h2 := ih fun z hz => hq z (by simp [hz])
        have h3 : y.data.toList.length = y.size := by rw [Array.length_toList]; rfl
        unfold Lib.lens at h2 ⊢
        simp only [List.map_cons, List.sum_cons, List.length_cons]
        rw [Nat.add_mul, h3]
        omega
    have := hl (x :: r) h
    simp only [List.map_cons, List.length_cons, List.length_map] at this ⊢
    rw [Nat.mul_add]
    simp
    omega
def numsS (p : List ByteArray) : List Int := (p.drop 1).map l40
def numS (p : List ByteArray) (i : Nat) : Int := (numsS p ++ [0, 0]).getD i 0
def hitS (p : List ByteArray) (k : Nat) : Bool := actOk k (numS p 0) (numS p 1) && decide (actT k (numS p 0).toNat (numS p 1).toNat = joinB p)
end Go.Proofs.YtlimlolciekimaaGreatDoor
