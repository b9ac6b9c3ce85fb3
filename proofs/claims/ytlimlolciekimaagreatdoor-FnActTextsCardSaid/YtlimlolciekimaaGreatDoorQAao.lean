/- Contracts of the program's and the reference's functions (Script1, TxtA). -/
import Derived.Lib.AppendStr
import Derived.Test.YtlimlolciekimaaGreatDoorRows
import Derived.Test.YtlimlolciekimaaGreatDoorQAak
import Derived.Test.YtlimlolciekimaaGreatDoorQAq
import Derived.Test.YtlimlolciekimaaGreatDoorQAal
namespace Go.Proofs.YtlimlolciekimaaGreatDoor
open Go.ChangeShapes Go.WideShapes Go.ChangeAt Go.RowKit
set_option linter.unusedVariables false
set_option maxRecDepth 10000
def actR (x : PAct) : ByteArray × Bool := fmtRes x.k x.a x.b
def lineT (x : PAct) : ByteArray := (actR x).1 ++ ⟨#[10]⟩
def scrT (l : List PAct) : Nat → ByteArray
  | 0 => ⟨#[]⟩
  | j + 1 => scrT l j ++ lineT (l.getD j ⟨0, 0, 0⟩)
def okTo (l : List PAct) (j : Nat) : Prop := ∀ i (h : i < l.length), i < j → (actR l[i]).2 = true
def scrRes (l : List PAct) : ByteArray × Bool := if l.length ≤ 40 ∧ l.all (fun x => (actR x).2) = true then (scrT l l.length, true) else (⟨#[]⟩, false)
theorem wordT_le (k : Nat) : (wordT k).size ≤ 6 := by
  unfold wordT
  split <;> decide
end Go.Proofs.YtlimlolciekimaaGreatDoor
namespace Go.Proofs.YtlimlolciekimaaGreatDoor
open Go.ChangeShapes Go.WideShapes Go.ChangeAt Go.RowKit
set_option linter.unusedVariables false
set_option linter.unusedSimpArgs false
set_option maxRecDepth 10000
theorem fieldsGo_end1 : ∀ (l cur : List UInt8), Lib.fieldsGo cur (l ++ [32]) = Lib.fieldsGo cur l
  | [], cur => by
    show Lib.fieldsGo cur [32] = Lib.fieldsGo cur []
    unfold Lib.fieldsGo
    have h : Lib.isSp 32 = true := by decide
    rw [h]
    cases cur with
    | nil => rfl
    | cons _ _ => simp [Lib.fieldsGo]
  | b :: l, cur => by
    show Lib.fieldsGo cur (b :: (l ++ [32])) = Lib.fieldsGo cur (b :: l)
    unfold Lib.fieldsGo
    rw [fieldsGo_end1 l [], fieldsGo_end1 l (cur ++ [b])]
theorem flds_pad (s : ByteArray) : flds (⟨#[32, 32]⟩ ++ s ++ ⟨#[32]⟩) = flds s := by
  unfold flds
  congr 1
  have e : (⟨#[32, 32]⟩ ++ s ++ ⟨#[32]⟩ : ByteArray).data.toList = 32 :: 32 :: (s.data.toList ++ [32]) := by simp [ByteArray.data_append]
  rw [e]
  unfold Lib.fields
  rw [Lib.fieldsGo_sp 32 _ (by decide), Lib.fieldsGo_sp 32 _ (by decide), fieldsGo_end1]
theorem map_back (p : List ByteArray) : (p.map (·.data.toList)).map (fun l => (⟨l.toArray⟩ : ByteArray)) = p := by
  rw [List.map_map]
  refine (List.map_congr_left fun x _ => ?_).trans (List.map_id _)
  apply ba_ext; simp
theorem flds_join {p : List ByteArray} (h : cleanP p) : flds (joinB p) = p := by
  unfold flds joinB
  have := fields_join (p.map (·.data.toList)) (by intro x hx; obtain ⟨y, hy, rfl⟩ := List.mem_map.1 hx; exact h y hy)
  simp only [this]
  exact map_back p
theorem flds_act (k a b : Nat) : flds (actT k a b) = actF k a b := by rw [actT_join]; exact flds_join (actF_clean k a b)
theorem dec_size {n : Nat} (h : n ≤ 1000000000) : (numT n).size ≤ 10 := by
  have : (numT n).size = (numT n).data.toList.length := by rw [Array.length_toList]; rfl
  rw [this]; exact dec_len h
theorem actT_size (k : Nat) {a b : Nat} (ha : a ≤ 9) (hb : b ≤ 1000) : (actT k a b).size ≤ 28 := by
  have h1 := wordT_le k
  have h2 := dec_size (n := a) (by omega)
  have h3 := dec_size (n := b) (by omega)
  unfold actT
  split
  · omega
  · split
    · rw [ByteArray.size_append, ByteArray.size_append, size1]; omega
    · rw [ByteArray.size_append, ByteArray.size_append, ByteArray.size_append, ByteArray.size_append, size1]; omega
def prL (l : List UInt8) : Bool := l.all pr
theorem prL_app (l r : List UInt8) : prL (l ++ r) = (prL l && prL r) := by unfold prL; rw [List.all_append]
theorem digL_pr {l : List UInt8} (h : digL l = true) : prL l = true := by
  unfold digL at h
  unfold prL pr
  rw [List.all_eq_true] at h ⊢
  intro b hb
  have := h b hb
  simp only [Bool.and_eq_true, decide_eq_true_eq] at this ⊢
  omega
theorem num_pr (n : Nat) : prL (numT n).data.toList = true := digL_pr (digL_dec n)
theorem word_pr : ∀ k, prL (wordT k).data.toList = true := by
  intro k
  unfold wordT
  split <;> decide
theorem act_pr (k a b : Nat) : prL (actT k a b).data.toList = true := by
  have h0 : prL [32] = true := by decide
  unfold actT
  split
  · exact word_pr k
  · split
    · simp only [ByteArray.data_append, Array.toList_append, prL_app, word_pr, num_pr, Bool.true_and, Bool.and_true]; exact h0
    · simp only [ByteArray.data_append, Array.toList_append, prL_app, word_pr, num_pr, Bool.true_and, Bool.and_true, Bool.and_eq_true]; exact ⟨h0, h0⟩
theorem fldOk_of {s : ByteArray} (h1 : s.size ≤ 600) (h2 : prL s.data.toList = true) (h3 : (flds s).length ≤ 24) : fldOk s = true := by
  unfold fldOk
  unfold prL pr at h2
  rw [h2]
  simp [h1, h3]
theorem act_line2 {k a b : Nat} (ha : a ≤ 9) (hb : b ≤ 1000) : fldOk (⟨#[32, 32]⟩ ++ actT k a b ++ ⟨#[32]⟩) = true := by
  have := actF_len k a b
  refine fldOk_of ?_ ?_ (by rw [flds_pad, flds_act]; omega)
  · have := actT_size k ha hb
    rw [ByteArray.size_append, ByteArray.size_append, size1]
    have h2 : (⟨#[32, 32]⟩ : ByteArray).size = 2 := rfl
    omega
  · simp only [ByteArray.data_append, Array.toList_append, prL_app, act_pr, Bool.and_true, Bool.and_eq_true]
    exact ⟨by decide, by decide⟩
theorem par_act {k a b : Nat} (h : actOk k a b = true) : parRes (actF k a b) = ((k, a, b), true) := by
  have h1 := parOk_of h rfl
  obtain ⟨h2, h3, h4⟩ := act_det h rfl
  unfold parRes
  rw [if_pos h1, h2, h3, h4]
end Go.Proofs.YtlimlolciekimaaGreatDoor
