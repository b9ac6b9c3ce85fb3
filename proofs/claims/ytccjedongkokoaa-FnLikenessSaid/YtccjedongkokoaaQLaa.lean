/- Contracts of the program's and the reference's functions (FlipOk, Same1, CardP, RoomV, Mix1, SideP, Low1, LikeP). -/
import Derived.Deep.DeepCutAuto
import Derived.Deep.RegionHeld3
import Derived.Test.YtccjedongkokoaaRows
import Derived.Test.YtccjedongkokoaaQLc
import Derived.Test.YtccjedongkokoaaQLa
import Derived.Test.YtccjedongkokoaaQLb
import Derived.Test.YtccjedongkokoaaQLu
import Derived.Test.YtccjedongkokoaaQLo
namespace Go.Proofs.Ytccjedongkokoaa
open Go.ChangeShapes Go.WideShapes Go.ChangeAt Go.RowKit
set_option linter.unusedVariables false
set_option maxRecDepth 10000
theorem strip_letter {l : List UInt8} (h : cnt 100 l + cnt 102 l = l.length) : ∀ x ∈ l, x = 100 ∨ x = 102 := by
  induction l with
  | nil => intro x hx; cases hx
  | cons a t ih =>
    have ht := cnt_two t
    have e1 : cnt 100 (a :: t) = cnt 100 t + (if a = 100 then 1 else 0) := by unfold cnt; rw [List.count_cons]; by_cases q : a = 100 <;> simp [q]
    have e2 : cnt 102 (a :: t) = cnt 102 t + (if a = 102 then 1 else 0) := by unfold cnt; rw [List.count_cons]; by_cases q : a = 102 <;> simp [q]
    rw [e1, e2, List.length_cons] at h
    have ha : a = 100 ∨ a = 102 := by
      by_cases q1 : a = 100
      · exact .inl q1
      · by_cases q2 : a = 102
        · exact .inr q2
        · rw [if_neg q1, if_neg q2] at h; omega
    have hne : ¬ ((100 : UInt8) = 102) := by decide
    intro x hx
    rcases List.mem_cons.1 hx with rfl | hx
    · exact ha
    · refine ih ?_ x hx
      rcases ha with rfl | rfl
      · rw [if_pos rfl, if_neg hne] at h; omega
      · rw [if_neg (Ne.symm hne), if_pos rfl] at h; omega
theorem strip_cnt {l : List UInt8} (h : isStrip l = true) : cnt 100 l + cnt 102 l = l.length := by
  unfold isStrip at h
  simp only [Bool.and_eq_true, beq_iff_eq] at h
  exact h.1
def otherC (c : UInt8) : UInt8 := if c = 100 then 102 else 100
end Go.Proofs.Ytccjedongkokoaa
namespace Go.Proofs.Ytccjedongkokoaa
open Go.ChangeShapes Go.WideShapes Go.ChangeAt Go.RowKit
set_option linter.unusedVariables false
set_option maxRecDepth 10000
def sameCard (d f d2 f2 : Int) (ss ts : List ByteArray) : Bool := (d == d2) && ((f == f2) && eqSS ss ts)
set_option maxHeartbeats 1600000 in
theorem s_SameCard (d f d2 f2 : Int) (B : Nat) (A A2 : Option Addr) (n c n2 c2 : Nat) (ss ts : List ByteArray) (w : World) (hS : Strs w B A n ss) (hT : Strs w B A2 n2 ts) (hB : B ≤ w.heap.size) :
    Calls Try.prog 28 #[.agg #[.int .i64 d, .int .i64 f, .slice A n c], .agg #[.int .i64 d2, .int .i64 f2, .slice A2 n2 c2]] w fun e w' => e = .returned (.bool (sameCard d f d2 f2 ss ts)) ∧ Below w.heap.size w w' := by
  have hn := hS.nb
  have hn2 := hT.nb
  have hS2 := (hS.alloc hB (.cells #[.int .i64 d, .int .i64 f, .slice A n c] 26)).alloc (by simp; omega) (.cells #[.int .i64 d2, .int .i64 f2, .slice A2 n2 c2] 26)
  have hT2 := (hT.alloc hB (.cells #[.int .i64 d, .int .i64 f, .slice A n c] 26)).alloc (by simp; omega) (.cells #[.int .i64 d2, .int .i64 f2, .slice A2 n2 c2] 26)
  have hl := hS.len
  have hl2 := hT.len
  have hnq : (n : Int) = n2 → ss.length = ts.length := fun h => by omega
  have hnn : ¬ (n : Int) = n2 → eqSS ss ts = false := fun h => by unfold eqSS; rw [decide_eq_false_iff_not]; intro h2; subst h2; omega
  have HNN := hide hnn
  have HL := Lib.hid hl
  have HL2 := Lib.hid hl2
  clear hl hl2 hnq hnn
  unfold sameCard
  cases h3 : (d == d2)
  · have e3 : (d != d2) = true := by simpa using h3
    go_enter Try.func28, Try.ntmps28
    go_wp2
    go_ret
    exact ⟨rfl, bel⟩
  · have e3 : (d != d2) = false := by simpa using h3
    cases h4 : (f == f2)
    · have e4 : (f != f2) = true := by simpa using h4
      go_enter Try.func28, Try.ntmps28
      go_wp2
      go_ret
      exact ⟨rfl, bel⟩
    · have e4 : (f != f2) = false := by simpa using h4
      cases h5 : ((n : Int) == (n2 : Int))
      · have HF := Lib.hid (unhide HNN (by simpa using h5))
        have e5 : ((n : Int) != (n2 : Int)) = true := by simpa using h5
        go_enter Try.func28, Try.ntmps28
        go_wp2
        go_ret
        exact ⟨ret_bool (by rw [HF.out]; rfl), bel⟩
      · have hni : (n : Int) = n2 := by simpa using h5
        have hnn : n = n2 := by omega
        clear hni
        subst hnn
        clear h5
        go_enter Try.func28, Try.ntmps28
        go_wp2
        go_loopw [5] (fun i wr => ∃ j m : Nat, j ≤ n ∧ i = .int .i64 j ∧ wr = ((w.alloc (.cells #[.int .i64 d, .int .i64 f, .slice A n c] 26)).alloc (.cells #[.int .i64 d2, .int .i64 f2, .slice A2 n c2] 26)).drewN m ∧ Hid (ss.take j = ts.take j)) (fun i _ => n - (intOf i).toNat)
        case atStart => exact ⟨0, 0, Nat.zero_le _, rfl, rfl, by unfold Hid; simp⟩
        case round =>
          obtain ⟨j, m, hj, rfl, rfl, HT⟩ := hrel
          by_cases hlt : j < n
          · obtain ⟨hk1, ad1, rfl, hab1, hc1, _⟩ := hS.at_ hlt
            obtain ⟨hk2, ad2, rfl, hab2, hc2, _⟩ := hT.at_ hlt
            have hcc1 : ∀ o p : Obj, ((w.alloc o).alloc p).cell? (ad1.add j) = some (.string ss[j]) := fun o p => by
              rw [World.cell?_alloc_lt _ _ _ (by rw [block_of_add]; simp; omega), World.cell?_alloc_lt _ _ _ (by rw [block_of_add]; omega)]; exact hc1
            have hcc2 : ∀ o p : Obj, ((w.alloc o).alloc p).cell? (ad2.add j) = some (.string ts[j]) := fun o p => by
              rw [World.cell?_alloc_lt _ _ _ (by rw [block_of_add]; simp; omega), World.cell?_alloc_lt _ _ _ (by rw [block_of_add]; omega)]; exact hc2
            by_cases he : ss[j] = ts[j]
            · have HE := Lib.hid he
              have hbq := beq_toList_true he
              clear he
              go_wp2
              go_quiet (fail)
              go_wp2
              go_roundw
              case rel =>
                refine ⟨j + 1, _, by omega, by go_num, by first | rfl | exact World.drewN_drewN _ _ _, ?_⟩
                unfold Hid
                rw [List.take_succ_eq_append_getElem hk1, List.take_succ_eq_append_getElem hk2, HT.out, HE.out]
              case measure => simp [intOf]; omega
            · have HF : Hid (eqSS ss ts = false) := by
                unfold Hid eqSS
                rw [decide_eq_false_iff_not]
                intro h; subst h; exact he rfl
              have hbq := beq_toList_false he
              clear he
              go_wp2
              go_quiet (fail)
              go_wp2
              go_ret
              exact ⟨ret_bool (by rw [HF.out]; rfl), bel⟩
          · have HF : Hid (eqSS ss ts = true) := by
              unfold Hid eqSS
              rw [decide_eq_true_iff]
              have h := HT.out
              rw [List.take_of_length_le (by have := HL.out; omega), List.take_of_length_le (by have := HL2.out; omega)] at h
              exact h
            go_wp2
            go_ret
            exact ⟨ret_bool (by rw [HF.out]; rfl), bel⟩
end Go.Proofs.Ytccjedongkokoaa
namespace Go.Proofs.Ytccjedongkokoaa
set_option linter.unusedVariables false
set_option maxRecDepth 10000
theorem sameCard_iff {d f d2 f2 : Int} {ss ts : List ByteArray} : sameCard d f d2 f2 ss ts = true ↔ d = d2 ∧ f = f2 ∧ ss = ts := by
  unfold sameCard eqSS
  simp
theorem drew_cardOk {d f : Nat} {ss : List ByteArray} (hb : 1 ≤ d ∧ d ≤ 4 ∧ 1 ≤ f ∧ f ≤ 4 ∧ 1 ≤ ss.length ∧ ss.length ≤ 6) (h : ∀ x ∈ ss, Drew d f x) : cardOk d f ss = true := by
  have hall : ss.all (stripOf d f) = true := List.all_eq_true.2 fun x hx => by
    have hD := h x hx
    have hst := drew_strip hD hb.1 (by omega) hb.2.2.1 (by omega)
    obtain ⟨k1, k2, k3⟩ := hD
    unfold stripOf downOf forwardOf
    rw [hst, k1, k2]
    simp
  unfold cardOk
  rw [hall]
  simp [isStepsB, inB]
  omega
theorem sc_size {s : ByteArray} (h : isStrip s.data.toList = true) : s.size ≤ 16 := by
  unfold isStrip inB at h
  simp at h
  have : s.data.toList.length = s.size := by simp
  simp at this
  omega
theorem card_bounds {d f : Int} {ss : List ByteArray} (h : cardOk d f ss = true) : (1 ≤ d ∧ d ≤ 8 ∧ 1 ≤ f ∧ f ≤ 8) ∧ (1 ≤ ss.length ∧ ss.length ≤ 10) ∧ ∀ s ∈ ss, s.size ≤ 16 := by
  unfold cardOk at h
  simp only [Bool.and_eq_true, List.all_eq_true] at h
  obtain ⟨⟨h1, h2⟩, h3, h4⟩ := h
  have e1 := inB_iff'.1 h1
  have e2 := inB_iff'.1 h2
  have e3 := inB_iff'.1 h3
  refine ⟨⟨by omega, by omega, by omega, by omega⟩, ⟨by omega, by omega⟩, fun s hs => ?_⟩
  have hs2 := h4 s hs
  unfold stripOf downOf at hs2
  by_cases hi : isStrip s.data.toList = true
  · exact sc_size hi
  · rw [if_neg hi] at hs2
    simp at hs2
    omega
end Go.Proofs.Ytccjedongkokoaa
namespace Go.Proofs.Ytccjedongkokoaa
open Go.ChangeShapes Go.WideShapes Go.ChangeAt Go.RowKit
set_option linter.unusedVariables false
set_option maxRecDepth 10000
def sumL : List Int → Int
  | [] => 0
  | a :: l => a + sumL l
def roomOf (s : List UInt8) : Int := if isStrip s = true then sumL (htsOf s) else -1
def volL : List ByteArray → Int
  | [] => 0
  | a :: l => roomOf a.data.toList + volL l
def volOf (d f : Int) (ss : List ByteArray) : Int := if cardOk d f ss = true then volL ss else -1
end Go.Proofs.Ytccjedongkokoaa
namespace Go.Proofs.Ytccjedongkokoaa
open Go.ChangeShapes Go.WideShapes Go.ChangeAt Go.RowKit
set_option linter.unusedVariables false
set_option maxRecDepth 10000
def mx (a b : List UInt8) (k : Nat) : Nat := max (cnt 102 (a.take k)) (cnt 102 (b.take k))
def mixAt (a b : List UInt8) (k : Nat) : UInt8 := if mx a b k < mx a b (k + 1) then 102 else 100
def mixL (a b : List UInt8) (n : Nat) : List UInt8 := (List.range n).map (mixAt a b)
theorem mixL_len (a b : List UInt8) (n : Nat) : (mixL a b n).length = n := by simp [mixL]
theorem mixL_succ (a b : List UInt8) (n : Nat) : mixL a b (n + 1) = mixL a b n ++ [mixAt a b n] := by simp [mixL, List.range_succ]
def mixP (s t : ByteArray) (n : Nat) : ByteArray := ⟨(mixL s.data.toList t.data.toList n).toArray⟩
theorem mixP_size (s t : ByteArray) (n : Nat) : (mixP s t n).size = n := by
  show (mixL s.data.toList t.data.toList n).toArray.size = n
  rw [List.size_toArray, mixL_len]
theorem mixP_f {s t : ByteArray} {n : Nat} (h : mx s.data.toList t.data.toList n < mx s.data.toList t.data.toList (n + 1)) : mixP s t n ++ ⟨#[102]⟩ = mixP s t (n + 1) := by
  apply ba_ext
  unfold mixP
  rw [ByteArray.data_append, Array.toList_append, mixL_succ]
  simp [mixAt, h]
theorem mixP_d {s t : ByteArray} {n : Nat} (h : ¬ mx s.data.toList t.data.toList n < mx s.data.toList t.data.toList (n + 1)) : mixP s t n ++ ⟨#[100]⟩ = mixP s t (n + 1) := by
  apply ba_ext
  unfold mixP
  rw [ByteArray.data_append, Array.toList_append, mixL_succ]
  simp [mixAt, h]
def mixB (s t : ByteArray) : ByteArray := if sameFrame s.data.toList t.data.toList = true then mixP s t s.size else ⟨#[]⟩
theorem mixB_no {s t : ByteArray} (h : sameFrame s.data.toList t.data.toList = false) : mixB s t = ⟨#[]⟩ := by unfold mixB; rw [h]; rfl
theorem mixB_yes {s t : ByteArray} (h : sameFrame s.data.toList t.data.toList = true) : mixB s t = mixP s t s.size := by unfold mixB; rw [h]; rfl
theorem mixB_size (s t : ByteArray) (h : s.size ≤ 16777216) : (mixB s t).size ≤ 16777216 := by
  cases h2 : sameFrame s.data.toList t.data.toList
  · rw [mixB_no h2]; exact Nat.zero_le _
  · rw [mixB_yes h2, mixP_size]; exact h
theorem sameFrame_len {s t : ByteArray} (h : sameFrame s.data.toList t.data.toList = true) : t.size = s.size ∧ s.size ≤ 16 := by
  unfold sameFrame at h
  simp only [Bool.and_eq_true, beq_iff_eq] at h
  have h1 := strip_len h.1.1
  have h2 := strip_len h.1.2
  have e1 : s.data.toList.length = s.size := by simp
  have e2 : t.data.toList.length = t.size := by simp
  omega
theorem mx_le (a b : List UInt8) (k : Nat) : mx a b k ≤ k := by
  unfold mx
  have h1 := cnt_le 102 (a.take k)
  have h2 := cnt_le 102 (b.take k)
  have h3 : (a.take k).length ≤ k := List.length_take_le _ _
  have h4 : (b.take k).length ≤ k := List.length_take_le _ _
  omega
theorem mx_zero (a b : List UInt8) : mx a b 0 = 0 := by simp [mx, cnt]
set_option maxHeartbeats 400000 in
theorem i_forwards (s : ByteArray) (v : Int) (k : Nat) (w : World) (hv : v = (k : Int)) (hk : k ≤ s.size) (hs : s.size ≤ 16777216) :
    Calls Try.prog 127 #[.string s, .int .i64 v] w fun e w' => e = .returned (.int .i64 (cnt 102 (s.data.toList.take k))) ∧ w = w' := by
  subst hv
  have he : (s.extract 0 k).data.toList = s.data.toList.take k := by
    simp [ByteArray.data_extract, Array.toList_extract, List.extract_eq_take_drop]
  go_enter Try.func127, Try.ntmps127
  go_wp2_with (go_at_call 126; refine (strCount _ _ _).mono ?_; rintro e w' ⟨rfl, rfl⟩)
  go_ret
  exact ⟨rfl, rfl⟩
set_option maxHeartbeats 400000 in
theorem c_max (a b M : Nat) (w : World) (hM : max a b = M) :
    Calls Try.prog 138 #[.int .i64 a, .int .i64 b] w fun e w' => e = .returned (.int .i64 M) ∧ w = w' := by
  subst hM
  go_enter Try.func138, Try.ntmps138
  go_wp2
  go_ret
  exact ⟨ret_int (by omega), rfl⟩
set_option maxHeartbeats 1600000 in
theorem i_between (s t : ByteArray) (w : World) (hs : s.size ≤ 16777216) (ht : t.size ≤ 16777216) :
    Calls Try.prog 137 #[.string s, .string t, .func (.func 138) #[] #[]] w fun e w' => e = .returned (.string (mixB s t)) ∧ w = w' := by
  have hsf := fun (w : World) => i_SameFrame s t w hs ht
  cases h : sameFrame s.data.toList t.data.toList
  · simp only [h] at hsf
    have HSF := hide hsf
    have HR := Lib.hid (mixB_no h)
    clear hsf h
    go_enter Try.func137, Try.ntmps137
    go_wp2_with (go_at_call 108; refine (unhide HSF _).mono ?_; rintro e w' ⟨rfl, rfl⟩)
    go_ret
    exact ⟨ret_str HR.out.symm, rfl⟩
  · simp only [h] at hsf
    have HSF := hide hsf
    have HR := Lib.hid (mixB_yes h)
    obtain ⟨htn, hs16⟩ := sameFrame_len h
    clear hsf h
    go_enter Try.func137, Try.ntmps137
    go_wp2_with (go_at_call 108; refine (unhide HSF _).mono ?_; rintro e w' ⟨rfl, rfl⟩)
    go_loop [7, 8, 17] (fun o l i => ∃ j : Nat, j ≤ s.size ∧ i = .int .i64 j ∧ o = .string (mixP s t j) ∧ l = .int .i64 (mx s.data.toList t.data.toList j)) (fun _ _ i => s.size - (intOf i).toNat)
    case atStart => exact ⟨0, Nat.zero_le _, rfl, rfl, by rw [mx_zero]; rfl⟩
    case round =>
      obtain ⟨j, hj, rfl, rfl, rfl⟩ := hrel
      have hm1 := mx_le s.data.toList t.data.toList j
      have hm2 := mx_le s.data.toList t.data.toList (j + 1)
      have hsz : ¬ 9223372036854775807 < (mixP s t j).size + 1 := by rw [mixP_size]; omega
      by_cases hlt : j < s.size
      · by_cases hgt : mx s.data.toList t.data.toList j < mx s.data.toList t.data.toList (j + 1)
        · have HE := Lib.hid (mixP_f hgt)
          go_wp2_with (first | (go_at_call 127; refine (i_forwards _ _ (j + 1) _ (by push_cast; rfl) (by omega) (by omega)).mono ?_; rintro e w' ⟨rfl, rfl⟩) | (go_at_call 138; refine (c_max _ _ (mx s.data.toList t.data.toList (j + 1)) _ rfl).mono ?_; rintro e w' ⟨rfl, rfl⟩))
          go_round
          case rel => exact ⟨j + 1, by omega, by go_num, by rw [HE.out], rfl⟩
          case measure => simp [intOf]; omega
        · have HE := Lib.hid (mixP_d hgt)
          go_wp2_with (first | (go_at_call 127; refine (i_forwards _ _ (j + 1) _ (by push_cast; rfl) (by omega) (by omega)).mono ?_; rintro e w' ⟨rfl, rfl⟩) | (go_at_call 138; refine (c_max _ _ (mx s.data.toList t.data.toList (j + 1)) _ rfl).mono ?_; rintro e w' ⟨rfl, rfl⟩))
          go_round
          case rel => exact ⟨j + 1, by omega, by go_num, by rw [HE.out], rfl⟩
          case measure => simp [intOf]; omega
      · have hje : j = s.size := by omega
        subst hje
        go_wp2
        go_ret
        exact ⟨ret_str HR.out.symm, rfl⟩
set_option maxHeartbeats 400000 in
theorem i_UpperOf (s t : ByteArray) (w : World) (hs : s.size ≤ 16777216) (ht : t.size ≤ 16777216) :
    Calls Try.prog 109 #[.string s, .string t] w fun e w' => e = .returned (.string (mixB s t)) ∧ w = w' := by
  go_enter Try.func109, Try.ntmps109
  go_wp2_with (go_at_call 137; refine (i_between s t _ hs ht).mono ?_; rintro e w' ⟨rfl, rfl⟩)
  go_ret
  exact ⟨rfl, rfl⟩
theorem cnt_take_f {s : ByteArray} {j : Nat} (hj : j < s.size) (h : s[j] = 102) : cnt 102 (s.data.toList.take (j + 1)) = cnt 102 (s.data.toList.take j) + 1 := by
  rw [take_snoc s j hj, cnt_snoc, if_pos h]
theorem cnt_take_d {s : ByteArray} {j : Nat} (hj : j < s.size) (h : ¬ s[j] = 102) : cnt 102 (s.data.toList.take (j + 1)) = cnt 102 (s.data.toList.take j) := by
  rw [take_snoc s j hj, cnt_snoc, if_neg h, Nat.add_zero]
set_option maxHeartbeats 3200000 in
theorem s_l08Mix (s t : ByteArray) (w : World) (hs : s.size ≤ 16777216) (ht : t.size ≤ 16777216) :
    Calls Try.prog 107 #[.string s, .string t, .bool true] w fun e w' => e = .returned (.string (mixB s t)) ∧ w = w' := by
  have hsf := fun (w : World) => s_SameFrame s t w hs ht
  cases h : sameFrame s.data.toList t.data.toList
  · simp only [h] at hsf
    have HSF := hide hsf
    have HR := Lib.hid (mixB_no h)
    clear hsf h
    go_enter Try.func107, Try.ntmps107
    go_wp2_with (go_at_call 136; refine (unhide HSF _).mono ?_; rintro e w' ⟨rfl, rfl⟩)
    go_ret
    exact ⟨ret_str HR.out.symm, rfl⟩
  · simp only [h] at hsf
    have HSF := hide hsf
    have HR := Lib.hid (mixB_yes h)
    obtain ⟨htn, hs16⟩ := sameFrame_len h
    clear hsf h
    go_enter Try.func107, Try.ntmps107
    go_wp2_with (go_at_call 136; refine (unhide HSF _).mono ?_; rintro e w' ⟨rfl, rfl⟩)
    go_loop [7, 8, 9, 10, 11] (fun o l p q i => ∃ j P Q : Nat, j ≤ s.size ∧ i = .int .i64 j ∧ o = .string (mixP s t j) ∧ l = .int .i64 (mx s.data.toList t.data.toList j) ∧ p = .int .i64 P ∧ q = .int .i64 Q ∧ Hid (P = cnt 102 (s.data.toList.take j)) ∧ Hid (Q = cnt 102 (t.data.toList.take j))) (fun _ _ _ _ i => s.size - (intOf i).toNat)
    case atStart => exact ⟨0, 0, 0, Nat.zero_le _, rfl, rfl, by rw [mx_zero]; rfl, rfl, rfl, rfl, rfl⟩
    case round =>
      obtain ⟨j, P, Q, hj, rfl, rfl, rfl, rfl, rfl, HP, HQ⟩ := hrel
      have hm1 := mx_le s.data.toList t.data.toList j
      have hsz : ¬ 9223372036854775807 < (mixP s t j).size + 1 := by rw [mixP_size]; omega
      have hP16 : P ≤ 16777216 := by have h1 := cnt_le 102 (s.data.toList.take j); have h2 : (s.data.toList.take j).length ≤ j := List.length_take_le _ _; have := HP.out; omega
      have hQ16 : Q ≤ 16777216 := by have h1 := cnt_le 102 (t.data.toList.take j); have h2 : (t.data.toList.take j).length ≤ j := List.length_take_le _ _; have := HQ.out; omega
      by_cases hlt : j < s.size
      · have hlt2 : j < t.size := by omega
        by_cases hf : s[j] = 102
        · have hb1 : ((s[j].toNat : Int) == 102) = true := by rw [hf]; rfl
          have HP2 : Hid ((P + 1) = cnt 102 (s.data.toList.take (j + 1))) := by unfold Hid; rw [cnt_take_f hlt hf, HP.out]
          clear hf
          by_cases hg : t[j] = 102
          · have hb2 : ((t[j].toNat : Int) == 102) = true := by rw [hg]; rfl
            have HQ2 : Hid ((Q + 1) = cnt 102 (t.data.toList.take (j + 1))) := by unfold Hid; rw [cnt_take_f hlt2 hg, HQ.out]
            clear hg
            by_cases hgt : mx s.data.toList t.data.toList j < mx s.data.toList t.data.toList (j + 1)
            · have HE := Lib.hid (mixP_f hgt)
              have hmm : mx s.data.toList t.data.toList (j + 1) = max (P + 1) (Q + 1) := by unfold mx; rw [← HP2.out, ← HQ2.out]
              rw [hmm] at hgt
              have hcmp : decide (((mx s.data.toList t.data.toList j : Nat) : Int) < ((max (P + 1) (Q + 1) : Nat) : Int)) = true := decide_eq_true (by omega)
              generalize mx s.data.toList t.data.toList j = M at *
              have HMM := Lib.hid hmm
              clear hmm
              go_wp2
              go_round
              case rel => exact ⟨j + 1, (P + 1), (Q + 1), by omega, by go_num, by rw [HE.out], congrArg (Value.int .i64) (by have h9 := HMM.out; omega), by go_num, by go_num, HP2.out, HQ2.out⟩
              case measure => simp [intOf]; omega
            · have HE := Lib.hid (mixP_d hgt)
              have hmm : mx s.data.toList t.data.toList (j + 1) = max (P + 1) (Q + 1) := by unfold mx; rw [← HP2.out, ← HQ2.out]
              rw [hmm] at hgt
              have hcmp : decide (((mx s.data.toList t.data.toList j : Nat) : Int) < ((max (P + 1) (Q + 1) : Nat) : Int)) = false := decide_eq_false (by omega)
              generalize mx s.data.toList t.data.toList j = M at *
              have HMM := Lib.hid hmm
              clear hmm
              go_wp2
              go_round
              case rel => exact ⟨j + 1, (P + 1), (Q + 1), by omega, by go_num, by rw [HE.out], congrArg (Value.int .i64) (by have h9 := HMM.out; omega), by go_num, by go_num, HP2.out, HQ2.out⟩
              case measure => simp [intOf]; omega
          · have hb2 : ((t[j].toNat : Int) == 102) = false := by rw [beq_eq_false_iff_ne]; intro h; apply hg; apply UInt8.toNat_inj.1; show _ = 102; omega
            have HQ2 : Hid (Q = cnt 102 (t.data.toList.take (j + 1))) := by unfold Hid; rw [cnt_take_d hlt2 hg, HQ.out]
            clear hg
            by_cases hgt : mx s.data.toList t.data.toList j < mx s.data.toList t.data.toList (j + 1)
            · have HE := Lib.hid (mixP_f hgt)
              have hmm : mx s.data.toList t.data.toList (j + 1) = max (P + 1) Q := by unfold mx; rw [← HP2.out, ← HQ2.out]
              rw [hmm] at hgt
              have hcmp : decide (((mx s.data.toList t.data.toList j : Nat) : Int) < ((max (P + 1) Q : Nat) : Int)) = true := decide_eq_true (by omega)
              generalize mx s.data.toList t.data.toList j = M at *
              have HMM := Lib.hid hmm
              clear hmm
              go_wp2
              go_round
              case rel => exact ⟨j + 1, (P + 1), Q, by omega, by go_num, by rw [HE.out], congrArg (Value.int .i64) (by have h9 := HMM.out; omega), by go_num, by go_num, HP2.out, HQ2.out⟩
              case measure => simp [intOf]; omega
            · have HE := Lib.hid (mixP_d hgt)
              have hmm : mx s.data.toList t.data.toList (j + 1) = max (P + 1) Q := by unfold mx; rw [← HP2.out, ← HQ2.out]
              rw [hmm] at hgt
              have hcmp : decide (((mx s.data.toList t.data.toList j : Nat) : Int) < ((max (P + 1) Q : Nat) : Int)) = false := decide_eq_false (by omega)
              generalize mx s.data.toList t.data.toList j = M at *
              have HMM := Lib.hid hmm
              clear hmm
              go_wp2
              go_round
              case rel => exact ⟨j + 1, (P + 1), Q, by omega, by go_num, by rw [HE.out], congrArg (Value.int .i64) (by have h9 := HMM.out; omega), by go_num, by go_num, HP2.out, HQ2.out⟩
              case measure => simp [intOf]; omega
        · have hb1 : ((s[j].toNat : Int) == 102) = false := by rw [beq_eq_false_iff_ne]; intro h; apply hf; apply UInt8.toNat_inj.1; show _ = 102; omega
          have HP2 : Hid (P = cnt 102 (s.data.toList.take (j + 1))) := by unfold Hid; rw [cnt_take_d hlt hf, HP.out]
          clear hf
          by_cases hg : t[j] = 102
          · have hb2 : ((t[j].toNat : Int) == 102) = true := by rw [hg]; rfl
            have HQ2 : Hid ((Q + 1) = cnt 102 (t.data.toList.take (j + 1))) := by unfold Hid; rw [cnt_take_f hlt2 hg, HQ.out]
            clear hg
            by_cases hgt : mx s.data.toList t.data.toList j < mx s.data.toList t.data.toList (j + 1)
            · have HE := Lib.hid (mixP_f hgt)
              have hmm : mx s.data.toList t.data.toList (j + 1) = max P (Q + 1) := by unfold mx; rw [← HP2.out, ← HQ2.out]
              rw [hmm] at hgt
              have hcmp : decide (((mx s.data.toList t.data.toList j : Nat) : Int) < ((max P (Q + 1) : Nat) : Int)) = true := decide_eq_true (by omega)
              generalize mx s.data.toList t.data.toList j = M at *
              have HMM := Lib.hid hmm
              clear hmm
              go_wp2
              go_round
              case rel => exact ⟨j + 1, P, (Q + 1), by omega, by go_num, by rw [HE.out], congrArg (Value.int .i64) (by have h9 := HMM.out; omega), by go_num, by go_num, HP2.out, HQ2.out⟩
              case measure => simp [intOf]; omega
            · have HE := Lib.hid (mixP_d hgt)
              have hmm : mx s.data.toList t.data.toList (j + 1) = max P (Q + 1) := by unfold mx; rw [← HP2.out, ← HQ2.out]
              rw [hmm] at hgt
              have hcmp : decide (((mx s.data.toList t.data.toList j : Nat) : Int) < ((max P (Q + 1) : Nat) : Int)) = false := decide_eq_false (by omega)
              generalize mx s.data.toList t.data.toList j = M at *
              have HMM := Lib.hid hmm
              clear hmm
              go_wp2
              go_round
              case rel => exact ⟨j + 1, P, (Q + 1), by omega, by go_num, by rw [HE.out], congrArg (Value.int .i64) (by have h9 := HMM.out; omega), by go_num, by go_num, HP2.out, HQ2.out⟩
              case measure => simp [intOf]; omega
          · have hb2 : ((t[j].toNat : Int) == 102) = false := by rw [beq_eq_false_iff_ne]; intro h; apply hg; apply UInt8.toNat_inj.1; show _ = 102; omega
            have HQ2 : Hid (Q = cnt 102 (t.data.toList.take (j + 1))) := by unfold Hid; rw [cnt_take_d hlt2 hg, HQ.out]
            clear hg
            by_cases hgt : mx s.data.toList t.data.toList j < mx s.data.toList t.data.toList (j + 1)
            · have HE := Lib.hid (mixP_f hgt)
              have hmm : mx s.data.toList t.data.toList (j + 1) = max P Q := by unfold mx; rw [← HP2.out, ← HQ2.out]
              rw [hmm] at hgt
              have hcmp : decide (((mx s.data.toList t.data.toList j : Nat) : Int) < ((max P Q : Nat) : Int)) = true := decide_eq_true (by omega)
              generalize mx s.data.toList t.data.toList j = M at *
              have HMM := Lib.hid hmm
              clear hmm
              go_wp2
              go_round
              case rel => exact ⟨j + 1, P, Q, by omega, by go_num, by rw [HE.out], congrArg (Value.int .i64) (by have h9 := HMM.out; omega), by go_num, by go_num, HP2.out, HQ2.out⟩
              case measure => simp [intOf]; omega
            · have HE := Lib.hid (mixP_d hgt)
              have hmm : mx s.data.toList t.data.toList (j + 1) = max P Q := by unfold mx; rw [← HP2.out, ← HQ2.out]
              rw [hmm] at hgt
              have hcmp : decide (((mx s.data.toList t.data.toList j : Nat) : Int) < ((max P Q : Nat) : Int)) = false := decide_eq_false (by omega)
              generalize mx s.data.toList t.data.toList j = M at *
              have HMM := Lib.hid hmm
              clear hmm
              go_wp2
              go_round
              case rel => exact ⟨j + 1, P, Q, by omega, by go_num, by rw [HE.out], congrArg (Value.int .i64) (by have h9 := HMM.out; omega), by go_num, by go_num, HP2.out, HQ2.out⟩
              case measure => simp [intOf]; omega
      · have hje : j = s.size := by omega
        subst hje
        go_wp2
        go_ret
        exact ⟨ret_str HR.out.symm, rfl⟩
end Go.Proofs.Ytccjedongkokoaa
namespace Go.Proofs.Ytccjedongkokoaa
set_option linter.unusedVariables false
set_option maxRecDepth 10000
def swpC (x : UInt8) : UInt8 := if x = 100 then 102 else 100
def turnL (l : List UInt8) : List UInt8 := (l.map swpC).reverse
def turnB (s : ByteArray) : ByteArray := if isStrip s.data.toList = true then ⟨(turnL s.data.toList).toArray⟩ else ⟨#[]⟩
def aboveL (a b : List UInt8) : Bool := sameFrame a b && (List.range (a.length + 1)).all (fun k => decide (cnt 102 (b.take k) ≤ cnt 102 (a.take k)))
def Let2 (l : List UInt8) : Prop := ∀ x ∈ l, x = 100 ∨ x = 102
theorem let2_of {l : List UInt8} (h : isStrip l = true) : Let2 l := strip_letter (strip_cnt h)
theorem let2_cnt {l : List UInt8} (h : Let2 l) : cnt 100 l + cnt 102 l = l.length := by
  induction l with
  | nil => rfl
  | cons x l ih =>
    have h1 := ih (fun y hy => h y (List.mem_cons_of_mem _ hy))
    have h2 := h x List.mem_cons_self
    unfold cnt at *
    simp only [List.count_cons, List.length_cons]
    rcases h2 with rfl | rfl <;> simp <;> omega
theorem cnt_cons (c x : UInt8) (l : List UInt8) : cnt c (x :: l) = cnt c l + if x = c then 1 else 0 := by
  unfold cnt; rw [List.count_cons]; by_cases h : x = c <;> simp [h]
def pairs : List UInt8 → Nat
  | [] => 0
  | c :: l => pairs l + if c = 102 then 0 else cnt 102 l
theorem frame_iff {a b : List UInt8} : sameFrame a b = true ↔ isStrip a = true ∧ isStrip b = true ∧ cnt 100 a = cnt 100 b ∧ cnt 102 a = cnt 102 b := by
  unfold sameFrame
  simp only [Bool.and_eq_true, beq_iff_eq]
  exact ⟨fun h => ⟨h.1.1, h.1.2, h.2.1, h.2.2⟩, fun h => ⟨⟨h.1, h.2.1⟩, h.2.2.1, h.2.2.2⟩⟩
theorem strips_of {d f : Int} {ss : List ByteArray} (h : cardOk d f ss = true) {s : ByteArray} (hs : s ∈ ss) : isStrip s.data.toList = true ∧ (cnt 100 s.data.toList : Int) = d ∧ (cnt 102 s.data.toList : Int) = f := by
  unfold cardOk at h
  simp only [Bool.and_eq_true, List.all_eq_true] at h
  have h1 := h.2.2 s hs
  have hd := inB_iff'.1 h.1.1
  unfold stripOf at h1
  simp only [Bool.and_eq_true, beq_iff_eq] at h1
  cases hq : isStrip s.data.toList
  · have e := h1.1
    unfold downOf at e
    rw [hq] at e
    simp at e
    omega
  · have e := h1.1
    have e2 := h1.2
    unfold downOf at e
    unfold forwardOf at e2
    rw [if_pos hq] at e e2
    exact ⟨rfl, e, e2⟩
theorem card_iff {d f : Int} {ss : List ByteArray} : cardOk d f ss = true ↔ (1 ≤ d ∧ d ≤ 8 ∧ 1 ≤ f ∧ f ≤ 8) ∧ (1 ≤ ss.length ∧ ss.length ≤ 10) ∧ ∀ s ∈ ss, isStrip s.data.toList = true ∧ (cnt 100 s.data.toList : Int) = d ∧ (cnt 102 s.data.toList : Int) = f := by
  constructor
  · intro h
    have hb := card_bounds h
    exact ⟨hb.1, hb.2.1, fun s hs => strips_of h hs⟩
  · rintro ⟨h1, h2, h3⟩
    unfold cardOk
    simp only [Bool.and_eq_true, List.all_eq_true]
    refine ⟨⟨inB_iff'.2 ⟨h1.1, h1.2.1⟩, inB_iff'.2 ⟨h1.2.2.1, h1.2.2.2⟩⟩, inB_iff'.2 ⟨by omega, by omega⟩, fun s hs => ?_⟩
    obtain ⟨q1, q2, q3⟩ := h3 s hs
    unfold stripOf downOf forwardOf
    rw [if_pos q1, if_pos q1]
    simp [q2, q3]
-- the strip above two strips
theorem mx_mono1 (a b : List UInt8) (k : Nat) : mx a b k ≤ mx a b (k + 1) ∧ mx a b (k + 1) ≤ mx a b k + 1 := by
  have q : ∀ l : List UInt8, cnt 102 (l.take k) ≤ cnt 102 (l.take (k + 1)) ∧ cnt 102 (l.take (k + 1)) ≤ cnt 102 (l.take k) + 1 := by
    intro l
    by_cases h : k < l.length
    · rw [List.take_succ_eq_append_getElem h, cnt_snoc]
      split <;> omega
    · rw [List.take_of_length_le (by omega), List.take_of_length_le (by omega)]
      omega
  have q1 := q a
  have q2 := q b
  unfold mx
  omega
theorem mix_cnt (a b : List UInt8) (n : Nat) : cnt 102 (mixL a b n) = mx a b n ∧ cnt 100 (mixL a b n) + mx a b n = n := by
  induction n with
  | zero => rw [mx_zero]; exact ⟨rfl, rfl⟩
  | succ n ih =>
    have hm := mx_mono1 a b n
    rw [mixL_succ, cnt_snoc, cnt_snoc]
    unfold mixAt
    split <;> simp <;> omega
theorem mix_take (a b : List UInt8) (n k : Nat) (h : k ≤ n) : (mixL a b n).take k = mixL a b k := by
  unfold mixL
  rw [← List.map_take, List.take_range, Nat.min_eq_left h]
theorem mx_full {a b : List UInt8} (h : sameFrame a b = true) : mx a b a.length = cnt 102 a := by
  obtain ⟨h1, h2, h3, h4⟩ := frame_iff.1 h
  have hl : b.length = a.length := by have := let2_cnt (let2_of h1); have := let2_cnt (let2_of h2); omega
  unfold mx
  rw [List.take_of_length_le (Nat.le_refl _), List.take_of_length_le (by omega), h4]
  omega
theorem mixB_list {s t : ByteArray} (h : sameFrame s.data.toList t.data.toList = true) : (mixB s t).data.toList = mixL s.data.toList t.data.toList s.data.toList.length := by
  rw [mixB_yes h]
  rfl
theorem mixB_strip {s t : ByteArray} (h : sameFrame s.data.toList t.data.toList = true) : isStrip (mixB s t).data.toList = true ∧ cnt 100 (mixB s t).data.toList = cnt 100 s.data.toList ∧ cnt 102 (mixB s t).data.toList = cnt 102 s.data.toList := by
  obtain ⟨h1, h2, h3, h4⟩ := frame_iff.1 h
  have hc := let2_cnt (let2_of h1)
  obtain ⟨m1, m2⟩ := mix_cnt s.data.toList t.data.toList s.data.toList.length
  rw [mx_full h] at m1 m2
  rw [mixB_list h]
  refine ⟨?_, by omega, m1⟩
  unfold isStrip at h1 ⊢
  rw [mixL_len, m1]
  simp only [Bool.and_eq_true, beq_iff_eq] at h1 ⊢
  rw [show cnt 100 (mixL s.data.toList t.data.toList s.data.toList.length) = cnt 100 s.data.toList by omega]
  exact ⟨by omega, h1.2⟩
theorem eq_of_cnt {a b : List UInt8} (ha : Let2 a) (hb : Let2 b) (hl : a.length = b.length) (h : ∀ k, k ≤ a.length → cnt 102 (a.take k) = cnt 102 (b.take k)) : a = b := by
  apply List.ext_getElem hl
  intro k h1 h2
  have e1 := h k (by omega)
  have e2 := h (k + 1) (by omega)
  rw [List.take_succ_eq_append_getElem h1, List.take_succ_eq_append_getElem h2, cnt_snoc, cnt_snoc, e1] at e2
  have ha1 := ha _ (List.getElem_mem h1)
  have hb1 := hb _ (List.getElem_mem h2)
  by_cases q1 : a[k] = 102 <;> by_cases q2 : b[k] = 102
  · rw [q1, q2]
  · rw [if_pos q1, if_neg q2] at e2; omega
  · rw [if_neg q1, if_pos q2] at e2; omega
  · rw [ha1.resolve_right q1, hb1.resolve_right q2]
def begs : List UInt8 → Nat
  | [] => 0
  | c :: l => begs l + if c = 102 then l.length + 1 else 0
def begT (l : List UInt8) (n : Nat) : Nat := match n with
  | 0 => 0
  | n + 1 => begT l n + cnt 102 (l.take (n + 1))
theorem zip_lenS (ss ts : List ByteArray) (h : ts.length = ss.length) : (List.zipWith mixB ss ts).length = ss.length := by rw [List.length_zipWith, h, Nat.min_self]
theorem zip_memS : ∀ (ss ts : List ByteArray) (x : ByteArray), x ∈ List.zipWith mixB ss ts → ∃ a ∈ ss, ∃ b ∈ ts, x = mixB a b
  | [], _, x, h => by simp at h
  | _ :: _, [], x, h => by simp at h
  | a :: l, b :: m, x, h => by
    rw [List.zipWith_cons_cons] at h
    rcases List.mem_cons.1 h with h | h
    · exact ⟨a, List.mem_cons_self, b, List.mem_cons_self, h⟩
    · obtain ⟨p, hp, q, hq, e⟩ := zip_memS l m x h
      exact ⟨p, List.mem_cons_of_mem _ hp, q, List.mem_cons_of_mem _ hq, e⟩
def symS (ss : List ByteArray) : List ByteArray := List.zipWith mixB ss ss.reverse
end Go.Proofs.Ytccjedongkokoaa
namespace Go.Proofs.Ytccjedongkokoaa
open Go.ChangeShapes Go.WideShapes Go.ChangeAt Go.RowKit
set_option linter.unusedVariables false
set_option maxRecDepth 10000
def mn (a b : List UInt8) (k : Nat) : Nat := min (cnt 102 (a.take k)) (cnt 102 (b.take k))
def lowAt (a b : List UInt8) (k : Nat) : UInt8 := if mn a b k < mn a b (k + 1) then 102 else 100
def lowL (a b : List UInt8) (n : Nat) : List UInt8 := (List.range n).map (lowAt a b)
theorem lowL_len (a b : List UInt8) (n : Nat) : (lowL a b n).length = n := by simp [lowL]
theorem lowL_succ (a b : List UInt8) (n : Nat) : lowL a b (n + 1) = lowL a b n ++ [lowAt a b n] := by simp [lowL, List.range_succ]
def lowP (s t : ByteArray) (n : Nat) : ByteArray := ⟨(lowL s.data.toList t.data.toList n).toArray⟩
theorem lowP_size (s t : ByteArray) (n : Nat) : (lowP s t n).size = n := by
  show (lowL s.data.toList t.data.toList n).toArray.size = n
  rw [List.size_toArray, lowL_len]
theorem lowP_f {s t : ByteArray} {n : Nat} (h : mn s.data.toList t.data.toList n < mn s.data.toList t.data.toList (n + 1)) : lowP s t n ++ ⟨#[102]⟩ = lowP s t (n + 1) := by
  apply ba_ext
  unfold lowP
  rw [ByteArray.data_append, Array.toList_append, lowL_succ]
  simp [lowAt, h]
theorem lowP_d {s t : ByteArray} {n : Nat} (h : ¬ mn s.data.toList t.data.toList n < mn s.data.toList t.data.toList (n + 1)) : lowP s t n ++ ⟨#[100]⟩ = lowP s t (n + 1) := by
  apply ba_ext
  unfold lowP
  rw [ByteArray.data_append, Array.toList_append, lowL_succ]
  simp [lowAt, h]
def lowB (s t : ByteArray) : ByteArray := if sameFrame s.data.toList t.data.toList = true then lowP s t s.size else ⟨#[]⟩
theorem lowB_no {s t : ByteArray} (h : sameFrame s.data.toList t.data.toList = false) : lowB s t = ⟨#[]⟩ := by unfold lowB; rw [h]; rfl
theorem lowB_yes {s t : ByteArray} (h : sameFrame s.data.toList t.data.toList = true) : lowB s t = lowP s t s.size := by unfold lowB; rw [h]; rfl
theorem lowB_size (s t : ByteArray) (h : s.size ≤ 16777216) : (lowB s t).size ≤ 16777216 := by
  cases h2 : sameFrame s.data.toList t.data.toList
  · rw [lowB_no h2]; exact Nat.zero_le _
  · rw [lowB_yes h2, lowP_size]; exact h
theorem mn_le (a b : List UInt8) (k : Nat) : mn a b k ≤ k := by
  unfold mn
  have h1 := cnt_le 102 (a.take k)
  have h2 := cnt_le 102 (b.take k)
  have h3 : (a.take k).length ≤ k := List.length_take_le _ _
  have h4 : (b.take k).length ≤ k := List.length_take_le _ _
  omega
theorem mn_zero (a b : List UInt8) : mn a b 0 = 0 := by simp [mn, cnt]
set_option maxHeartbeats 400000 in
theorem c_min (a b M : Nat) (w : World) (hM : min a b = M) :
    Calls Try.prog 139 #[.int .i64 a, .int .i64 b] w fun e w' => e = .returned (.int .i64 M) ∧ w = w' := by
  subst hM
  go_enter Try.func139, Try.ntmps139
  go_wp2
  go_ret
  exact ⟨ret_int (by omega), rfl⟩
set_option maxHeartbeats 1600000 in
theorem i_betweenL (s t : ByteArray) (w : World) (hs : s.size ≤ 16777216) (ht : t.size ≤ 16777216) :
    Calls Try.prog 137 #[.string s, .string t, .func (.func 139) #[] #[]] w fun e w' => e = .returned (.string (lowB s t)) ∧ w = w' := by
  have hsf := fun (w : World) => i_SameFrame s t w hs ht
  cases h : sameFrame s.data.toList t.data.toList
  · simp only [h] at hsf
    have HSF := hide hsf
    have HR := Lib.hid (lowB_no h)
    clear hsf h
    go_enter Try.func137, Try.ntmps137
    go_wp2_with (go_at_call 108; refine (unhide HSF _).mono ?_; rintro e w' ⟨rfl, rfl⟩)
    go_ret
    exact ⟨ret_str HR.out.symm, rfl⟩
  · simp only [h] at hsf
    have HSF := hide hsf
    have HR := Lib.hid (lowB_yes h)
    obtain ⟨htn, hs16⟩ := sameFrame_len h
    clear hsf h
    go_enter Try.func137, Try.ntmps137
    go_wp2_with (go_at_call 108; refine (unhide HSF _).mono ?_; rintro e w' ⟨rfl, rfl⟩)
    go_loop [7, 8, 17] (fun o l i => ∃ j : Nat, j ≤ s.size ∧ i = .int .i64 j ∧ o = .string (lowP s t j) ∧ l = .int .i64 (mn s.data.toList t.data.toList j)) (fun _ _ i => s.size - (intOf i).toNat)
    case atStart => exact ⟨0, Nat.zero_le _, rfl, rfl, by rw [mn_zero]; rfl⟩
    case round =>
      obtain ⟨j, hj, rfl, rfl, rfl⟩ := hrel
      have hm1 := mn_le s.data.toList t.data.toList j
      have hm2 := mn_le s.data.toList t.data.toList (j + 1)
      have hsz : ¬ 9223372036854775807 < (lowP s t j).size + 1 := by rw [lowP_size]; omega
      by_cases hlt : j < s.size
      · by_cases hgt : mn s.data.toList t.data.toList j < mn s.data.toList t.data.toList (j + 1)
        · have HE := Lib.hid (lowP_f hgt)
          go_wp2_with (first | (go_at_call 127; refine (i_forwards _ _ (j + 1) _ (by push_cast; rfl) (by omega) (by omega)).mono ?_; rintro e w' ⟨rfl, rfl⟩) | (go_at_call 139; refine (c_min _ _ (mn s.data.toList t.data.toList (j + 1)) _ rfl).mono ?_; rintro e w' ⟨rfl, rfl⟩))
          go_round
          case rel => exact ⟨j + 1, by omega, by go_num, by rw [HE.out], rfl⟩
          case measure => simp [intOf]; omega
        · have HE := Lib.hid (lowP_d hgt)
          go_wp2_with (first | (go_at_call 127; refine (i_forwards _ _ (j + 1) _ (by push_cast; rfl) (by omega) (by omega)).mono ?_; rintro e w' ⟨rfl, rfl⟩) | (go_at_call 139; refine (c_min _ _ (mn s.data.toList t.data.toList (j + 1)) _ rfl).mono ?_; rintro e w' ⟨rfl, rfl⟩))
          go_round
          case rel => exact ⟨j + 1, by omega, by go_num, by rw [HE.out], rfl⟩
          case measure => simp [intOf]; omega
      · have hje : j = s.size := by omega
        subst hje
        go_wp2
        go_ret
        exact ⟨ret_str HR.out.symm, rfl⟩
set_option maxHeartbeats 400000 in
theorem i_LowerOf (s t : ByteArray) (w : World) (hs : s.size ≤ 16777216) (ht : t.size ≤ 16777216) :
    Calls Try.prog 110 #[.string s, .string t] w fun e w' => e = .returned (.string (lowB s t)) ∧ w = w' := by
  go_enter Try.func110, Try.ntmps110
  go_wp2_with (go_at_call 137; refine (i_betweenL s t _ hs ht).mono ?_; rintro e w' ⟨rfl, rfl⟩)
  go_ret
  exact ⟨rfl, rfl⟩
end Go.Proofs.Ytccjedongkokoaa
namespace Go.Proofs.Ytccjedongkokoaa
set_option linter.unusedVariables false
set_option linter.unusedSimpArgs false
set_option maxRecDepth 10000
-- the strip below two strips
theorem mn_mono1 (a b : List UInt8) (k : Nat) : mn a b k ≤ mn a b (k + 1) ∧ mn a b (k + 1) ≤ mn a b k + 1 := by
  have q : ∀ l : List UInt8, cnt 102 (l.take k) ≤ cnt 102 (l.take (k + 1)) ∧ cnt 102 (l.take (k + 1)) ≤ cnt 102 (l.take k) + 1 := by
    intro l
    by_cases h : k < l.length
    · rw [List.take_succ_eq_append_getElem h, cnt_snoc]
      split <;> omega
    · rw [List.take_of_length_le (by omega), List.take_of_length_le (by omega)]
      omega
  have q1 := q a
  have q2 := q b
  unfold mn
  omega
theorem low_cnt (a b : List UInt8) (n : Nat) : cnt 102 (lowL a b n) = mn a b n ∧ cnt 100 (lowL a b n) + mn a b n = n := by
  induction n with
  | zero => rw [mn_zero]; exact ⟨rfl, rfl⟩
  | succ n ih =>
    have hm := mn_mono1 a b n
    rw [lowL_succ, cnt_snoc, cnt_snoc]
    unfold lowAt
    split <;> simp <;> omega
theorem low_take (a b : List UInt8) (n k : Nat) (h : k ≤ n) : (lowL a b n).take k = lowL a b k := by
  unfold lowL
  rw [← List.map_take, List.take_range, Nat.min_eq_left h]
theorem mn_full {a b : List UInt8} (h : sameFrame a b = true) : mn a b a.length = cnt 102 a := by
  obtain ⟨h1, h2, h3, h4⟩ := frame_iff.1 h
  have hl : b.length = a.length := by have := let2_cnt (let2_of h1); have := let2_cnt (let2_of h2); omega
  unfold mn
  rw [List.take_of_length_le (Nat.le_refl _), List.take_of_length_le (by omega), h4]
  omega
theorem lowB_list {s t : ByteArray} (h : sameFrame s.data.toList t.data.toList = true) : (lowB s t).data.toList = lowL s.data.toList t.data.toList s.data.toList.length := by
  rw [lowB_yes h]
  rfl
theorem lowB_strip {s t : ByteArray} (h : sameFrame s.data.toList t.data.toList = true) : isStrip (lowB s t).data.toList = true ∧ cnt 100 (lowB s t).data.toList = cnt 100 s.data.toList ∧ cnt 102 (lowB s t).data.toList = cnt 102 s.data.toList := by
  obtain ⟨h1, h2, h3, h4⟩ := frame_iff.1 h
  have hc := let2_cnt (let2_of h1)
  obtain ⟨m1, m2⟩ := low_cnt s.data.toList t.data.toList s.data.toList.length
  rw [mn_full h] at m1 m2
  rw [lowB_list h]
  refine ⟨?_, by omega, m1⟩
  unfold isStrip at h1 ⊢
  rw [lowL_len, m1]
  simp only [Bool.and_eq_true, beq_iff_eq] at h1 ⊢
  rw [show cnt 100 (lowL s.data.toList t.data.toList s.data.toList.length) = cnt 100 s.data.toList by omega]
  exact ⟨by omega, h1.2⟩
-- heights by the steps forward in each beginning
theorem hts_le : ∀ (l : List UInt8) (u : Int) (x : Int), x ∈ hts u l → x ≤ u
  | [], _, _, h => by simp [hts] at h
  | c :: l, u, x, h => by
    unfold hts at h
    split at h
    · rcases List.mem_cons.1 h with q | q
      · omega
      · exact hts_le l u x q
    · have := hts_le l (u - 1) x h
      omega
theorem hts_ge : ∀ (l : List UInt8) (u : Int) (i e : Nat) (hi : i < (hts u l).length), u - (e : Int) ≤ (hts u l)[i] ↔ i + 1 ≤ cnt 102 (l.take (i + e + 1))
  | [], u, i, e, hi => by simp [hts] at hi
  | c :: l, u, i, e, hi => by
    rw [List.take_succ_cons, cnt_cons]
    by_cases hc : c = 102
    · have e1 : hts u (c :: l) = u :: hts u l := by simp [hts, hc]
      rw [if_pos hc]
      match i with
      | 0 =>
        have : (hts u (c :: l))[0] = u := by simp [e1]
        rw [this]
        constructor <;> intro _ <;> omega
      | i + 1 =>
        have hi2 : i < (hts u l).length := by rw [e1] at hi; simpa using hi
        have : (hts u (c :: l))[i + 1] = (hts u l)[i] := by simp [e1]
        rw [this, hts_ge l u i e hi2, show i + 1 + e = i + e + 1 by omega]
        constructor <;> intro _ <;> omega
    · have e1 : hts u (c :: l) = hts (u - 1) l := by simp [hts, hc]
      have hi2 : i < (hts (u - 1) l).length := by rw [e1] at hi; exact hi
      have : (hts u (c :: l))[i] = (hts (u - 1) l)[i] := by simp [e1]
      rw [this, if_neg hc, Nat.add_zero]
      match e with
      | 0 =>
        have h1 := hts_le l (u - 1) _ (List.getElem_mem hi2)
        have h2 : cnt 102 (l.take (i + 0)) ≤ (l.take (i + 0)).length := List.count_le_length
        have h3 : (l.take (i + 0)).length ≤ i := by rw [List.length_take]; omega
        constructor <;> intro _ <;> omega
      | e + 1 =>
        have := hts_ge l (u - 1) i e hi2
        rw [show i + (e + 1) = i + e + 1 by omega]
        show _ ↔ i + 1 ≤ cnt 102 (List.take (i + e + 1) l)
        rw [← this]
        constructor <;> intro _ <;> push_cast at * <;> omega
theorem cnt_take_full {a b : List UInt8} (hf : sameFrame a b = true) {k : Nat} (h : a.length ≤ k) : cnt 102 (a.take k) = cnt 102 a ∧ cnt 102 (b.take k) = cnt 102 a := by
  obtain ⟨h1, h2, h3, h4⟩ := frame_iff.1 hf
  have hl : b.length = a.length := by have := let2_cnt (let2_of h1); have := let2_cnt (let2_of h2); omega
  rw [List.take_of_length_le h, List.take_of_length_le (by omega)]
  exact ⟨rfl, h4.symm⟩
theorem mix_beg {a b : List UInt8} (hf : sameFrame a b = true) (k : Nat) : cnt 102 ((mixL a b a.length).take k) = max (cnt 102 (a.take k)) (cnt 102 (b.take k)) := by
  by_cases h : k ≤ a.length
  · rw [mix_take _ _ _ _ h, (mix_cnt _ _ _).1]; rfl
  · obtain ⟨e1, e2⟩ := cnt_take_full hf (show a.length ≤ k by omega)
    rw [List.take_of_length_le (by rw [mixL_len]; omega), (mix_cnt _ _ _).1, mx_full hf, e1, e2]
    omega
theorem low_beg {a b : List UInt8} (hf : sameFrame a b = true) (k : Nat) : cnt 102 ((lowL a b a.length).take k) = min (cnt 102 (a.take k)) (cnt 102 (b.take k)) := by
  by_cases h : k ≤ a.length
  · rw [low_take _ _ _ _ h, (low_cnt _ _ _).1]; rfl
  · obtain ⟨e1, e2⟩ := cnt_take_full hf (show a.length ≤ k by omega)
    rw [List.take_of_length_le (by rw [lowL_len]; omega), (low_cnt _ _ _).1, mn_full hf, e1, e2]
    omega
theorem int_eq_of_ge {u x y : Int} (hx : x ≤ u) (hy : y ≤ u) (h : ∀ e : Nat, u - (e : Int) ≤ x ↔ u - (e : Int) ≤ y) : x = y := by
  have h1 := h (u - x).toNat
  have h2 := h (u - y).toNat
  omega
theorem hts_upper {a b : List UInt8} (hf : sameFrame a b = true) : htsOf (mixL a b a.length) = List.zipWith max (htsOf a) (htsOf b) := by
  obtain ⟨h1, h2, h3, h4⟩ := frame_iff.1 hf
  have hc := let2_cnt (let2_of h1)
  obtain ⟨m1, m2⟩ := mix_cnt a b a.length
  rw [mx_full hf] at m1 m2
  have hd : cnt 100 (mixL a b a.length) = cnt 100 a := by omega
  unfold htsOf
  rw [hd, ← h3]
  apply List.ext_getElem
  · rw [List.length_zipWith, hts_len, hts_len, hts_len, m1, h4]; omega
  · intro i k1 k2
    rw [List.getElem_zipWith]
    rw [List.length_zipWith] at k2
    have ha := hts_le a (cnt 100 a) _ (List.getElem_mem (show i < _ by omega))
    have hb := hts_le b (cnt 100 a) _ (List.getElem_mem (show i < _ by omega))
    refine int_eq_of_ge (u := cnt 100 a) (hts_le _ _ _ (List.getElem_mem k1)) (by omega) fun e => ?_
    rw [hts_ge _ _ _ _ k1, mix_beg hf]
    have qa := hts_ge a (cnt 100 a) i e (by omega)
    have qb := hts_ge b (cnt 100 a) i e (by omega)
    omega
theorem hts_lower {a b : List UInt8} (hf : sameFrame a b = true) : htsOf (lowL a b a.length) = List.zipWith min (htsOf a) (htsOf b) := by
  obtain ⟨h1, h2, h3, h4⟩ := frame_iff.1 hf
  have hc := let2_cnt (let2_of h1)
  obtain ⟨m1, m2⟩ := low_cnt a b a.length
  rw [mn_full hf] at m1 m2
  have hd : cnt 100 (lowL a b a.length) = cnt 100 a := by omega
  unfold htsOf
  rw [hd, ← h3]
  apply List.ext_getElem
  · rw [List.length_zipWith, hts_len, hts_len, hts_len, m1, h4]; omega
  · intro i k1 k2
    rw [List.getElem_zipWith]
    rw [List.length_zipWith] at k2
    have ha := hts_le a (cnt 100 a) _ (List.getElem_mem (show i < _ by omega))
    have hb := hts_le b (cnt 100 a) _ (List.getElem_mem (show i < _ by omega))
    refine int_eq_of_ge (u := cnt 100 a) (hts_le _ _ _ (List.getElem_mem k1)) (by omega) fun e => ?_
    rw [hts_ge _ _ _ _ k1, low_beg hf]
    have qa := hts_ge a (cnt 100 a) i e (by omega)
    have qb := hts_ge b (cnt 100 a) i e (by omega)
    omega
theorem hts_inj {a b : List UInt8} (hf : sameFrame a b = true) (h : htsOf a = htsOf b) : a = b := by
  obtain ⟨h1, h2, h3, h4⟩ := frame_iff.1 hf
  have hl : b.length = a.length := by have := let2_cnt (let2_of h1); have := let2_cnt (let2_of h2); omega
  unfold htsOf at h
  rw [← h3] at h
  have key : ∀ (x y : List UInt8), hts (cnt 100 a : Nat) x = hts (cnt 100 a : Nat) y → cnt 102 x = cnt 102 y → ∀ k, cnt 102 (x.take k) ≤ cnt 102 (y.take k) := by
    intro x y hxy hc k
    refine Nat.le_of_not_lt fun hlt => ?_
    obtain ⟨i, hi⟩ : ∃ i, cnt 102 (x.take k) = i + 1 := ⟨cnt 102 (x.take k) - 1, by omega⟩
    have hk : cnt 102 (x.take k) ≤ (x.take k).length := List.count_le_length
    rw [List.length_take] at hk
    have hx : cnt 102 (x.take k) ≤ cnt 102 x := by
      have : cnt 102 x = cnt 102 (x.take k) + cnt 102 (x.drop k) := by rw [← cnt_app, List.take_append_drop]
      omega
    obtain ⟨e, he⟩ : ∃ e, k = i + e + 1 := ⟨k - i - 1, by omega⟩
    have l1 : i < (hts (cnt 100 a : Nat) x).length := by rw [hts_len]; omega
    have l2 : i < (hts (cnt 100 a : Nat) y).length := by rw [hts_len]; omega
    have q1 := hts_ge x (cnt 100 a : Nat) i e l1
    have q2 := hts_ge y (cnt 100 a : Nat) i e l2
    rw [← he] at q1 q2
    have : (hts (cnt 100 a : Nat) x)[i] = (hts (cnt 100 a : Nat) y)[i] := by simp only [hxy]
    rw [this] at q1
    omega
  exact eq_of_cnt (let2_of h1) (let2_of h2) hl.symm fun k _ => Nat.le_antisymm (key a b h h4 k) (key b a h.symm h4.symm k)
-- areas of lists
theorem areaL_self : ∀ a : List Int, areaL a a = 0
  | [] => rfl
  | x :: a => by rw [areaL, areaL_self a]; omega
theorem areaL_comm : ∀ a b : List Int, areaL a b = areaL b a
  | [], [] => rfl
  | [], _ :: _ => rfl
  | _ :: _, [] => rfl
  | x :: a, y :: b => by rw [areaL, areaL, areaL_comm a b]; omega
theorem areaL_nn : ∀ a b : List Int, 0 ≤ areaL a b
  | [], [] => Int.le_refl _
  | [], _ :: _ => Int.le_refl _
  | _ :: _, [] => Int.le_refl _
  | x :: a, y :: b => by have := areaL_nn a b; rw [areaL]; omega
theorem areaL_tri : ∀ a b c : List Int, a.length = b.length → b.length = c.length → areaL a c ≤ areaL a b + areaL b c
  | [], [], [], _, _ => by simp [areaL]
  | x :: a, y :: b, z :: c, h1, h2 => by
    have := areaL_tri a b c (by simpa using h1) (by simpa using h2)
    rw [areaL, areaL, areaL]
    omega
theorem areaL_zero : ∀ a b : List Int, a.length = b.length → areaL a b = 0 → a = b
  | [], [], _, _ => rfl
  | x :: a, y :: b, h, h0 => by
    have h1 := areaL_nn a b
    rw [areaL] at h0
    rw [areaL_zero a b (by simpa using h) (by omega)]
    congr 1
    omega
def medI (r s t : Int) : Int := max (min r s) (min (max r s) t)
theorem areaL_med : ∀ r s t : List Int, r.length = s.length → s.length = t.length →
    areaL (List.zipWith max (List.zipWith min r s) (List.zipWith min (List.zipWith max r s) t)) r + areaL (List.zipWith max (List.zipWith min r s) (List.zipWith min (List.zipWith max r s) t)) s = areaL r s ∧
    areaL (List.zipWith max (List.zipWith min r s) (List.zipWith min (List.zipWith max r s) t)) t + areaL (List.zipWith max (List.zipWith min r s) (List.zipWith min (List.zipWith max r s) t)) r = areaL r t
  | [], [], [], _, _ => by simp [areaL]
  | x :: a, y :: b, z :: c, h1, h2 => by
    have := areaL_med a b c (by simpa using h1) (by simpa using h2)
    simp only [List.zipWith_cons_cons]
    rw [areaL, areaL, areaL, areaL, areaL]
    omega
-- strips
def midB (r s t : ByteArray) : ByteArray := mixB (lowB r s) (lowB (mixB r s) t)
theorem frame_tr {a b c : List UInt8} (h : sameFrame a b = true) (k : sameFrame b c = true) : sameFrame a c = true := by
  obtain ⟨h1, h2, h3, h4⟩ := frame_iff.1 h
  obtain ⟨k1, k2, k3, k4⟩ := frame_iff.1 k
  exact frame_iff.2 ⟨h1, k2, by omega, by omega⟩
theorem frame_sy {a b : List UInt8} (h : sameFrame a b = true) : sameFrame b a = true := by
  obtain ⟨h1, h2, h3, h4⟩ := frame_iff.1 h
  exact frame_iff.2 ⟨h2, h1, h3.symm, h4.symm⟩
theorem frame_mix {s t : ByteArray} (h : sameFrame s.data.toList t.data.toList = true) : sameFrame s.data.toList (mixB s t).data.toList = true := by
  obtain ⟨h1, h2, h3, h4⟩ := frame_iff.1 h
  obtain ⟨m1, m2, m3⟩ := mixB_strip h
  exact frame_iff.2 ⟨h1, m1, m2.symm, m3.symm⟩
theorem frame_low {s t : ByteArray} (h : sameFrame s.data.toList t.data.toList = true) : sameFrame s.data.toList (lowB s t).data.toList = true := by
  obtain ⟨h1, h2, h3, h4⟩ := frame_iff.1 h
  obtain ⟨m1, m2, m3⟩ := lowB_strip h
  exact frame_iff.2 ⟨h1, m1, m2.symm, m3.symm⟩
theorem hts_mixB {s t : ByteArray} (h : sameFrame s.data.toList t.data.toList = true) : htsOf (mixB s t).data.toList = List.zipWith max (htsOf s.data.toList) (htsOf t.data.toList) := by
  rw [mixB_list h]; exact hts_upper h
theorem hts_lowB {s t : ByteArray} (h : sameFrame s.data.toList t.data.toList = true) : htsOf (lowB s t).data.toList = List.zipWith min (htsOf s.data.toList) (htsOf t.data.toList) := by
  rw [lowB_list h]; exact hts_lower h
theorem mid_frames {r s t : ByteArray} (h : sameFrame r.data.toList s.data.toList = true) (k : sameFrame s.data.toList t.data.toList = true) :
    sameFrame (mixB r s).data.toList t.data.toList = true ∧ sameFrame (lowB r s).data.toList (lowB (mixB r s) t).data.toList = true ∧ sameFrame r.data.toList (midB r s t).data.toList = true := by
  have h1 := frame_tr (frame_sy (frame_mix h)) (frame_tr h k)
  have h2 := frame_tr (frame_sy (frame_low h)) (frame_tr (frame_mix h) (frame_low h1))
  exact ⟨h1, h2, frame_tr (frame_low h) (frame_mix h2)⟩
theorem hts_mid {r s t : ByteArray} (h : sameFrame r.data.toList s.data.toList = true) (k : sameFrame s.data.toList t.data.toList = true) :
    htsOf (midB r s t).data.toList = List.zipWith max (List.zipWith min (htsOf r.data.toList) (htsOf s.data.toList)) (List.zipWith min (List.zipWith max (htsOf r.data.toList) (htsOf s.data.toList)) (htsOf t.data.toList)) := by
  obtain ⟨h1, h2, h3⟩ := mid_frames h k
  unfold midB
  rw [hts_mixB h2, hts_lowB h, hts_lowB h1, hts_mixB h]
theorem hts_leneq {a b : List UInt8} (h : sameFrame a b = true) : (htsOf a).length = (htsOf b).length := by
  obtain ⟨h1, h2, h3, h4⟩ := frame_iff.1 h
  unfold htsOf
  rw [hts_len, hts_len, h4]
theorem area_mid {r s t : ByteArray} (h : sameFrame r.data.toList s.data.toList = true) (k : sameFrame s.data.toList t.data.toList = true) :
    areaOf (midB r s t).data.toList r.data.toList + areaOf (midB r s t).data.toList s.data.toList = areaOf r.data.toList s.data.toList ∧
    areaOf (midB r s t).data.toList t.data.toList + areaOf (midB r s t).data.toList r.data.toList = areaOf r.data.toList t.data.toList := by
  obtain ⟨h1, h2, h3⟩ := mid_frames h k
  have m1 := frame_sy h3
  rw [areaOf_yes m1, areaOf_yes (frame_tr m1 h), areaOf_yes h, areaOf_yes (frame_tr m1 (frame_tr h k)), areaOf_yes (frame_tr h k), hts_mid h k]
  exact areaL_med _ _ _ (hts_leneq h) (hts_leneq k)
theorem area_comm {s t : List UInt8} (h : sameFrame s t = true) : areaOf s t = areaOf t s := by
  rw [areaOf_yes h, areaOf_yes (frame_sy h), areaL_comm]
theorem area_nn {s t : List UInt8} (h : sameFrame s t = true) : 0 ≤ areaOf s t := by
  rw [areaOf_yes h]; exact areaL_nn _ _
theorem area_tri {a b c : List UInt8} (h : sameFrame a b = true) (k : sameFrame b c = true) : areaOf a c ≤ areaOf a b + areaOf b c := by
  rw [areaOf_yes h, areaOf_yes k, areaOf_yes (frame_tr h k)]
  exact areaL_tri _ _ _ (hts_leneq h) (hts_leneq k)
theorem area_zero {a b : List UInt8} (h : sameFrame a b = true) : areaOf a b = 0 ↔ a = b := by
  rw [areaOf_yes h]
  exact ⟨fun q => hts_inj h (areaL_zero _ _ (hts_leneq h) q), fun q => by rw [q, areaL_self]⟩
-- cards
def Fr (ss ts : List ByteArray) : Prop := ss.length = ts.length ∧ ∀ x ∈ ss, ∀ y ∈ ts, sameFrame x.data.toList y.data.toList = true
theorem fr_of {d f : Int} {ss ts : List ByteArray} (h : cardOk d f ss = true) (k : cardOk d f ts = true) (hl : ss.length = ts.length) : Fr ss ts := by
  refine ⟨hl, fun x hx y hy => ?_⟩
  obtain ⟨a1, a2, a3⟩ := strips_of h hx
  obtain ⟨b1, b2, b3⟩ := strips_of k hy
  exact frame_iff.2 ⟨a1, b1, by omega, by omega⟩
theorem cost_comm : ∀ {a b : List ByteArray}, a.length = b.length → (∀ x ∈ a, ∀ y ∈ b, sameFrame x.data.toList y.data.toList = true) → costL a b = costL b a
  | [], [], _, _ => rfl
  | x :: a, y :: b, h, k => by
    rw [costL, costL, cost_comm (by simpa using h) (fun p hp q hq => k p (List.mem_cons_of_mem _ hp) q (List.mem_cons_of_mem _ hq)), area_comm (k x List.mem_cons_self y List.mem_cons_self)]
theorem cost_nn : ∀ {a b : List ByteArray}, a.length = b.length → (∀ x ∈ a, ∀ y ∈ b, sameFrame x.data.toList y.data.toList = true) → 0 ≤ costL a b
  | [], [], _, _ => Int.le_refl _
  | x :: a, y :: b, h, k => by
    have h1 := cost_nn (a := a) (b := b) (by simpa using h) (fun p hp q hq => k p (List.mem_cons_of_mem _ hp) q (List.mem_cons_of_mem _ hq))
    have h2 := area_nn (k x List.mem_cons_self y List.mem_cons_self)
    rw [costL]
    omega
theorem cost_zero : ∀ {a b : List ByteArray}, a.length = b.length → (∀ x ∈ a, ∀ y ∈ b, sameFrame x.data.toList y.data.toList = true) → (costL a b = 0 ↔ a = b)
  | [], [], _, _ => by simp [costL]
  | x :: a, y :: b, h, k => by
    have kk : ∀ p ∈ a, ∀ q ∈ b, sameFrame p.data.toList q.data.toList = true := fun p hp q hq => k p (List.mem_cons_of_mem _ hp) q (List.mem_cons_of_mem _ hq)
    have h1 := cost_nn (a := a) (b := b) (by simpa using h) kk
    have hxy := k x List.mem_cons_self y List.mem_cons_self
    have h2 := area_nn hxy
    have h3 := area_zero hxy
    have h4 := cost_zero (a := a) (b := b) (by simpa using h) kk
    rw [costL, List.cons.injEq, ← h4]
    constructor
    · intro q
      exact ⟨ba_ext (h3.1 (by omega)), by omega⟩
    · rintro ⟨q1, q2⟩
      have := h3.2 (by rw [q1])
      omega
theorem cost_tri : ∀ {a b c : List ByteArray}, a.length = b.length → b.length = c.length → (∀ x ∈ a, ∀ y ∈ b, sameFrame x.data.toList y.data.toList = true) → (∀ x ∈ b, ∀ y ∈ c, sameFrame x.data.toList y.data.toList = true) → costL a c ≤ costL a b + costL b c
  | [], [], [], _, _, _, _ => by simp [costL]
  | x :: a, y :: b, z :: c, h1, h2, k1, k2 => by
    have := cost_tri (a := a) (b := b) (c := c) (by simpa using h1) (by simpa using h2) (fun p hp q hq => k1 p (List.mem_cons_of_mem _ hp) q (List.mem_cons_of_mem _ hq)) (fun p hp q hq => k2 p (List.mem_cons_of_mem _ hp) q (List.mem_cons_of_mem _ hq))
    have h3 := area_tri (k1 x List.mem_cons_self y List.mem_cons_self) (k2 y List.mem_cons_self z List.mem_cons_self)
    rw [costL, costL, costL]
    omega
def midS : List ByteArray → List ByteArray → List ByteArray → List ByteArray
  | x :: a, y :: b, z :: c => midB x y z :: midS a b c
  | _, _, _ => []
theorem midS_len : ∀ (a b c : List ByteArray), a.length = b.length → b.length = c.length → (midS a b c).length = a.length
  | [], [], [], _, _ => rfl
  | x :: a, y :: b, z :: c, h1, h2 => by rw [midS, List.length_cons, List.length_cons, midS_len a b c (by simpa using h1) (by simpa using h2)]
theorem midS_at : ∀ (a b c : List ByteArray) (k : Nat) (ha : k < a.length) (hb : k < b.length) (hc : k < c.length) (hm : k < (midS a b c).length), (midS a b c)[k] = midB a[k] b[k] c[k]
  | x :: a, y :: b, z :: c, 0, _, _, _, _ => rfl
  | x :: a, y :: b, z :: c, k + 1, ha, hb, hc, hm => by
    simp only [midS, List.getElem_cons_succ]
    exact midS_at a b c k (by simpa using ha) (by simpa using hb) (by simpa using hc) (by simpa [midS] using hm)
theorem cost_mid : ∀ {a b c : List ByteArray}, a.length = b.length → b.length = c.length → (∀ x ∈ a, ∀ y ∈ b, sameFrame x.data.toList y.data.toList = true) → (∀ x ∈ b, ∀ y ∈ c, sameFrame x.data.toList y.data.toList = true) →
    costL (midS a b c) a + costL (midS a b c) b = costL a b ∧ costL (midS a b c) c + costL (midS a b c) a = costL a c
  | [], [], [], _, _, _, _ => by simp [costL, midS]
  | x :: a, y :: b, z :: c, h1, h2, k1, k2 => by
    have := cost_mid (a := a) (b := b) (c := c) (by simpa using h1) (by simpa using h2) (fun p hp q hq => k1 p (List.mem_cons_of_mem _ hp) q (List.mem_cons_of_mem _ hq)) (fun p hp q hq => k2 p (List.mem_cons_of_mem _ hp) q (List.mem_cons_of_mem _ hq))
    have h3 := area_mid (k1 x List.mem_cons_self y List.mem_cons_self) (k2 y List.mem_cons_self z List.mem_cons_self)
    simp only [midS, costL]
    omega
theorem midS_mem : ∀ {a b c : List ByteArray} {x : ByteArray}, x ∈ midS a b c → ∃ p ∈ a, ∃ q ∈ b, ∃ r ∈ c, x = midB p q r
  | x :: a, y :: b, z :: c, w, h => by
    simp only [midS] at h
    rcases List.mem_cons.1 h with e | e
    · exact ⟨x, List.mem_cons_self, y, List.mem_cons_self, z, List.mem_cons_self, e⟩
    · obtain ⟨p, hp, q, hq, r, hr, e⟩ := midS_mem e
      exact ⟨p, List.mem_cons_of_mem _ hp, q, List.mem_cons_of_mem _ hq, r, List.mem_cons_of_mem _ hr, e⟩
  | [], _, _, _, h => by simp [midS] at h
  | _ :: _, [], _, _, h => by simp [midS] at h
  | _ :: _, _ :: _, [], _, h => by simp [midS] at h
theorem midS_ok {d f : Int} {a b c : List ByteArray} (ha : cardOk d f a = true) (hb : cardOk d f b = true) (hc : cardOk d f c = true) (h1 : a.length = b.length) (h2 : b.length = c.length) : cardOk d f (midS a b c) = true := by
  obtain ⟨p1, p2, p3⟩ := card_iff.1 ha
  refine card_iff.2 ⟨p1, by rw [midS_len _ _ _ h1 h2]; exact p2, fun s hs => ?_⟩
  obtain ⟨x, hx, y, hy, z, hz, rfl⟩ := midS_mem hs
  have k1 := (fr_of ha hb h1).2 x hx y hy
  have k2 := (fr_of hb hc h2).2 y hy z hz
  obtain ⟨q1, q2, q3⟩ := p3 x hx
  obtain ⟨r1, r2, r3, r4⟩ := frame_iff.1 (mid_frames k1 k2).2.2
  exact ⟨r2, by omega, by omega⟩
theorem cost_rev : ∀ {a b : List ByteArray}, a.length = b.length → costL a.reverse b.reverse = costL a b := by
  have app : ∀ (a b c d : List ByteArray), a.length = b.length → costL (a ++ c) (b ++ d) = costL a b + costL c d := by
    intro a
    induction a with
    | nil => intro b c d h; cases b with
      | nil => simp [costL]
      | cons y b => simp at h
    | cons x a ih => intro b c d h; cases b with
      | nil => simp at h
      | cons y b => simp only [List.cons_append, costL]; rw [ih b c d (by simpa using h)]; omega
  intro a
  induction a with
  | nil => intro b h; cases b with
    | nil => rfl
    | cons y b => simp at h
  | cons x a ih => intro b h; cases b with
    | nil => simp at h
    | cons y b =>
      rw [List.reverse_cons, List.reverse_cons, app _ _ _ _ (by simpa using h), ih (by simpa using h)]
      simp only [costL]
      omega
end Go.Proofs.Ytccjedongkokoaa
