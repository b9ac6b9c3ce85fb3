/- The strip above two strips: the contracts of both packages. -/
import Derived.Test.YtdddglihomchfaaArea1
namespace Go.Proofs.Ytdddglihomchfaa
open Go.ChangeShapes Go.WideShapes Go.ChangeAt Go.RowKit
set_option linter.unusedVariables false
set_option maxRecDepth 10000

def mx (a b : List UInt8) (k : Nat) : Nat := max (cnt 102 (a.take k)) (cnt 102 (b.take k))
def mixAt (a b : List UInt8) (k : Nat) : UInt8 := if mx a b k < mx a b (k + 1) then 102 else 100
def mixL (a b : List UInt8) (n : Nat) : List UInt8 := (List.range n).map (mixAt a b)
theorem mixL_len (a b : List UInt8) (n : Nat) : (mixL a b n).length = n := by simp [mixL]
theorem mixL_succ (a b : List UInt8) (n : Nat) : mixL a b (n + 1) = mixL a b n ++ [mixAt a b n] := by simp [mixL, List.range_succ]
def mixP (s t : ByteArray) (n : Nat) : ByteArray := ⟨(mixL s.data.toList t.data.toList n).toArray⟩
theorem mixP_size (s t : ByteArray) (n : Nat) : (mixP s t n).size = n := by
  show (mixL s.data.toList t.data.toList n).toArray.size = n
  rw [List.size_toArray, mixL_len]
theorem mixP_f {s t : ByteArray} {n : Nat} (h : mx s.data.toList t.data.toList n < mx s.data.toList t.data.toList (n + 1)) : mixP s t n ++ ⟨#[102]⟩ = mixP s t (n + 1) := by
  apply ba_ext
  unfold mixP
  rw [ByteArray.data_append, Array.toList_append, mixL_succ]
  simp [mixAt, h]
theorem mixP_d {s t : ByteArray} {n : Nat} (h : ¬ mx s.data.toList t.data.toList n < mx s.data.toList t.data.toList (n + 1)) : mixP s t n ++ ⟨#[100]⟩ = mixP s t (n + 1) := by
  apply ba_ext
  unfold mixP
  rw [ByteArray.data_append, Array.toList_append, mixL_succ]
  simp [mixAt, h]
def mixB (s t : ByteArray) : ByteArray := if sameFrame s.data.toList t.data.toList = true then mixP s t s.size else ⟨#[]⟩
theorem mixB_no {s t : ByteArray} (h : sameFrame s.data.toList t.data.toList = false) : mixB s t = ⟨#[]⟩ := by unfold mixB; rw [h]; rfl
theorem mixB_yes {s t : ByteArray} (h : sameFrame s.data.toList t.data.toList = true) : mixB s t = mixP s t s.size := by unfold mixB; rw [h]; rfl
theorem mixB_size (s t : ByteArray) (h : s.size ≤ 16777216) : (mixB s t).size ≤ 16777216 := by
  cases h2 : sameFrame s.data.toList t.data.toList
  · rw [mixB_no h2]; exact Nat.zero_le _
  · rw [mixB_yes h2, mixP_size]; exact h
theorem sameFrame_len {s t : ByteArray} (h : sameFrame s.data.toList t.data.toList = true) : t.size = s.size ∧ s.size ≤ 16 := by
  unfold sameFrame at h
  simp only [Bool.and_eq_true, beq_iff_eq] at h
  have h1 := strip_len h.1.1
  have h2 := strip_len h.1.2
  have e1 : s.data.toList.length = s.size := by simp
  have e2 : t.data.toList.length = t.size := by simp
  omega
theorem mx_le (a b : List UInt8) (k : Nat) : mx a b k ≤ k := by
  unfold mx
  have h1 := cnt_le 102 (a.take k)
  have h2 := cnt_le 102 (b.take k)
  have h3 : (a.take k).length ≤ k := List.length_take_le _ _
  have h4 : (b.take k).length ≤ k := List.length_take_le _ _
  omega
theorem mx_zero (a b : List UInt8) : mx a b 0 = 0 := by simp [mx, cnt]
end Go.Proofs.Ytdddglihomchfaa
