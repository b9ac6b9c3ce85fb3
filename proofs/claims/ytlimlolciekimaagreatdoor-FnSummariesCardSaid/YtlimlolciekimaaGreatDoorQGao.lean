/- Contracts of the program's and the reference's functions (TxtC). -/
import Derived.Lib.Split
import Derived.Test.YtlimlolciekimaaGreatDoorRows
import Derived.Test.YtlimlolciekimaaGreatDoorQGal
namespace Go.Proofs.YtlimlolciekimaaGreatDoor
open Go.ChangeShapes Go.WideShapes Go.ChangeAt Go.RowKit
set_option linter.unusedVariables false
set_option linter.unusedSimpArgs false
set_option maxRecDepth 10000
def tailT (pre : ByteArray) (l : List ByteArray) : ByteArray := ⟨(pre.data.toList ++ Lib.joinTail [32] (l.map (·.data.toList))).toArray⟩
theorem tailT_nil (pre : ByteArray) : tailT pre [] = pre := by apply ba_ext; simp [tailT, Lib.joinTail]
theorem tailT_snoc (pre : ByteArray) (l : List ByteArray) (x : ByteArray) : tailT pre (l ++ [x]) = tailT pre l ++ (⟨#[32]⟩ ++ x) := by
  apply ba_ext; simp [tailT, Lib.joinTail, ByteArray.data_append]
theorem tailT_snoc2 (pre : ByteArray) (l : List ByteArray) (x : ByteArray) : tailT pre (l ++ [x]) = tailT pre l ++ ⟨#[32]⟩ ++ x := by
  apply ba_ext; simp [tailT, Lib.joinTail, ByteArray.data_append]
theorem tailT_take (pre : ByteArray) (l : List ByteArray) {k : Nat} (hk : k < l.length) : tailT pre (l.take (k + 1)) = tailT pre (l.take k) ++ (⟨#[32]⟩ ++ l[k]) := by
  rw [List.take_succ_eq_append_getElem hk, tailT_snoc]
theorem tailT_take2 (pre : ByteArray) (l : List ByteArray) {k : Nat} (hk : k < l.length) : tailT pre (l.take (k + 1)) = tailT pre (l.take k) ++ ⟨#[32]⟩ ++ l[k] := by
  rw [List.take_succ_eq_append_getElem hk, tailT_snoc2]
theorem one_size (x : UInt8) : (⟨#[x]⟩ : ByteArray).size = 1 := rfl
theorem tailT_size (pre : ByteArray) (m : Nat) : ∀ l : List ByteArray, (∀ x ∈ l, x.size ≤ m) → (tailT pre l).size ≤ pre.size + l.length * (m + 1) := by
  intro l
  generalize hn : l.length = n
  induction n generalizing l with
  | zero =>
    intro _
    rw [List.length_eq_zero_iff.1 hn, tailT_nil]; omega
  | succ n ih =>
    intro h
    have hne : l ≠ [] := by rintro rfl; simp at hn
    have hl := List.dropLast_concat_getLast hne
    rw [← hl, tailT_snoc, ByteArray.size_append, ByteArray.size_append, one_size]
    have h1 := ih l.dropLast (by rw [List.length_dropLast]; omega) (fun x hx => h x (List.dropLast_subset _ hx))
    have h2 := h (l.getLast hne) (List.getLast_mem hne)
    rw [Nat.add_mul]; omega
def headT (d f : Nat) : ByteArray := numT d ++ ⟨#[120]⟩ ++ numT f
def cardT (d f : Nat) (ss : List ByteArray) : ByteArray := headT d f ++ ⟨#[58, 32]⟩ ++ joinB ss
theorem index_no (c : UInt8) : ∀ l : List UInt8, c ∉ l → Lib.index l [c] = -1
  | [], _ => rfl
  | b :: l, h => by
    have h1 : ¬ c = b := fun e => h (by simp [e])
    have ih := index_no c l (fun e => h (by simp [e]))
    unfold Lib.index
    rw [ih]
    simp [h1]
theorem index_yes (c : UInt8) (v : List UInt8) : ∀ u : List UInt8, c ∉ u → Lib.index (u ++ c :: v) [c] = u.length
  | [], _ => by
    show Lib.index (c :: v) [c] = 0
    unfold Lib.index; simp
  | b :: u, h => by
    have h1 : ¬ c = b := fun e => h (by simp [e])
    have ih := index_yes c v u (fun e => h (by simp [e]))
    rw [List.cons_append]
    unfold Lib.index
    rw [ih]
    have h2 : (((u.length : Nat) : Int) == -1) = false := by simp
    simp [h1, h2]
theorem index_two (c e : UInt8) (v : List UInt8) : ∀ u : List UInt8, c ∉ u → Lib.index (u ++ c :: e :: v) [c, e] = u.length
  | [], _ => by
    show Lib.index (c :: e :: v) [c, e] = 0
    unfold Lib.index; simp
  | b :: u, h => by
    have h1 : ¬ c = b := fun e => h (by simp [e])
    have ih := index_two c e v u (fun e => h (by simp [e]))
    rw [List.cons_append]
    unfold Lib.index
    rw [ih]
    have h2 : (((u.length : Nat) : Int) == -1) = false := by simp
    simp [h1, h2]
theorem cut_one (c : UInt8) (u v : List UInt8) (h : c ∉ u) : Lib.cut (u ++ c :: v) [c] = (u, v, true) := by
  unfold Lib.cut
  rw [index_yes c v u h, if_pos (by omega)]
  simp
theorem cut_two (c e : UInt8) (u v : List UInt8) (h : c ∉ u) : Lib.cut (u ++ c :: e :: v) [c, e] = (u, v, true) := by
  unfold Lib.cut
  rw [index_two c e v u h, if_pos (by omega)]
  simp
def spl (c : UInt8) : List UInt8 → List UInt8 → List (List UInt8)
  | cur, [] => [cur]
  | cur, b :: l => if b = c then cur :: spl c [] l else spl c (cur ++ [b]) l
theorem spl_word (c : UInt8) : ∀ (x cur r : List UInt8), c ∉ x → spl c cur (x ++ r) = spl c (cur ++ x) r
  | [], cur, r, _ => by simp
  | b :: x, cur, r, h => by
    have h1 : ¬ b = c := fun e => h (by simp [e])
    rw [List.cons_append]
    show (if b = c then _ else _) = _
    rw [if_neg h1, spl_word c x (cur ++ [b]) r (fun e => h (by simp [e]))]
    simp
theorem spl_none (c : UInt8) (l : List UInt8) (h : c ∉ l) : spl c [] l = [l] := by
  have := spl_word c l [] [] h
  simpa [spl] using this
theorem spl_cut (c : UInt8) (u v : List UInt8) (h : c ∉ u) : spl c [] (u ++ c :: v) = u :: spl c [] v := by
  rw [spl_word c u [] _ h]
  show (if c = c then _ else _) = _
  rw [if_pos rfl]; simp
theorem mem_cut1 (c : UInt8) : ∀ l : List UInt8, c ∈ l → ∃ u v, l = u ++ c :: v ∧ c ∉ u
  | [], h => by simp at h
  | b :: l, h => by
    by_cases hb : b = c
    · exact ⟨[], l, by simp [hb], by simp⟩
    · obtain ⟨u, v, h1, h2⟩ := mem_cut1 c l (by rcases List.mem_cons.1 h with h | h; exact absurd h.symm hb; exact h)
      exact ⟨b :: u, v, by simp [h1], by simp [h2]; exact fun e => hb e.symm⟩
theorem split_spl (c : UInt8) : ∀ (fuel : Nat) (l : List UInt8), l.length < fuel → Lib.splitK [c] 0 (Lib.countFrom [c] fuel l) l = spl c [] l
  | 0, l, h => by omega
  | fuel + 1, l, h => by
    by_cases hc : c ∈ l
    · obtain ⟨u, v, rfl, hu⟩ := mem_cut1 c l hc
      have ix := index_yes c v u hu
      have h2 : (((u.length : Nat) : Int) == -1) = false := by simp
      unfold Lib.countFrom
      rw [ix, h2]
      simp only [Bool.false_eq_true, if_false]
      rw [Nat.add_comm]
      unfold Lib.splitK
      rw [ix, h2]
      simp only [Bool.false_eq_true, if_false, Int.toNat_natCast, Nat.add_zero]
      rw [List.take_left, spl_cut c u v hu]
      have hd : (u ++ c :: v).drop (u.length + [c].length) = v := by simp
      rw [hd, split_spl c fuel v (by simp at h; omega)]
    · have ix := index_no c l hc
      unfold Lib.countFrom
      rw [ix, spl_none c l hc]
      rfl
theorem pieces (c : UInt8) (s : ByteArray) : Lib.splitB ⟨#[c]⟩ 0 (Lib.countB s ⟨#[c]⟩) s = (spl c [] s.data.toList).map fun l => ⟨l.toArray⟩ := by
  have h1 := Lib.splitB_data ⟨#[c]⟩ 0 (Lib.countB s ⟨#[c]⟩) s
  have h2 := split_spl c (s.data.toList.length + 1) s.data.toList (Nat.lt_succ_self _)
  have h3 : (Lib.splitB ⟨#[c]⟩ 0 (Lib.countB s ⟨#[c]⟩) s).map (·.data.toList) = spl c [] s.data.toList := h1.trans h2
  rw [← h3, List.map_map]
  symm
  refine (List.map_congr_left fun x _ => ?_).trans (List.map_id _)
  apply ba_ext; simp
theorem spl_join (c : UInt8) : ∀ (r : List (List UInt8)) (x : List UInt8), c ∉ x → (∀ y ∈ r, c ∉ y) → spl c x (Lib.joinTail [c] r) = x :: r
  | [], x, hx, _ => by simp [Lib.joinTail, spl]
  | y :: r, x, hx, hr => by
    have e : Lib.joinTail [c] (y :: r) = c :: (y ++ Lib.joinTail [c] r) := by simp [Lib.joinTail]
    have hy := hr y (by simp)
    rw [e]
    show (if c = c then _ else _) = _
    rw [if_pos rfl, spl_word c y [] _ hy, List.nil_append, spl_join c r y hy fun z hz => hr z (by simp [hz])]
end Go.Proofs.YtlimlolciekimaaGreatDoor
