/- Heights of a strip; the contracts of SameFrame, HeightsOf of both packages. -/
import Derived.Test.YteffbjddgdjkmaaCard5
namespace Go.Proofs.Yteffbjddgdjkmaa
open Go.ChangeShapes Go.WideShapes Go.ChangeAt Go.RowKit
set_option linter.unusedVariables false
set_option maxRecDepth 10000

def sameFrame (a b : List UInt8) : Bool := (isStrip a && isStrip b) && ((cnt 100 a == cnt 100 b) && (cnt 102 a == cnt 102 b))
theorem strip_len {l : List UInt8} (h : isStrip l = true) : cnt 100 l + cnt 102 l = l.length ∧ 1 ≤ cnt 100 l ∧ cnt 100 l ≤ 8 ∧ 1 ≤ cnt 102 l ∧ cnt 102 l ≤ 8 := by
  unfold isStrip at h
  simp only [Bool.and_eq_true, beq_iff_eq, inB, decide_eq_true_eq] at h
  omega
theorem down_strip {l : List UInt8} (h : isStrip l = true) : downOf l = cnt 100 l := by unfold downOf; rw [if_pos h]
theorem forward_strip {l : List UInt8} (h : isStrip l = true) : forwardOf l = cnt 102 l := by unfold forwardOf; rw [if_pos h]
theorem sf_no1 {a b : List UInt8} (h : isStrip a = false) : sameFrame a b = false := by unfold sameFrame; rw [h]; rfl
theorem sf_no2 {a b : List UInt8} (h : isStrip b = false) : sameFrame a b = false := by unfold sameFrame; rw [h]; simp
theorem sf_yes {a b : List UInt8} (h : sameFrame a b = true) : isStrip a = true ∧ isStrip b = true ∧ cnt 100 a = cnt 100 b ∧ cnt 102 a = cnt 102 b := by
  unfold sameFrame at h
  simp only [Bool.and_eq_true, beq_iff_eq] at h
  exact ⟨h.1.1, h.1.2, h.2.1, h.2.2⟩
theorem sf_len {a b : List UInt8} (ha : isStrip a = true) (hb : isStrip b = true) (h : a.length ≠ b.length) : sameFrame a b = false := by
  cases hs : sameFrame a b
  · rfl
  · obtain ⟨_, _, h1, h2⟩ := sf_yes hs
    have := strip_len ha; have := strip_len hb; omega
theorem sf_down {a b : List UInt8} (ha : isStrip a = true) (hb : isStrip b = true) (h : downOf a ≠ downOf b) : sameFrame a b = false := by
  cases hs : sameFrame a b
  · rfl
  · obtain ⟨_, _, h1, h2⟩ := sf_yes hs
    rw [down_strip ha, down_strip hb] at h; omega
theorem sf_forward {a b : List UInt8} (ha : isStrip a = true) (hb : isStrip b = true) (h : forwardOf a ≠ forwardOf b) : sameFrame a b = false := by
  cases hs : sameFrame a b
  · rfl
  · obtain ⟨_, _, h1, h2⟩ := sf_yes hs
    rw [forward_strip ha, forward_strip hb] at h; omega
theorem sf_mk {a b : List UInt8} (ha : isStrip a = true) (hb : isStrip b = true) (h : a.length = b.length) (hd : downOf a = downOf b) : sameFrame a b = true := by
  rw [down_strip ha, down_strip hb] at hd
  have := strip_len ha; have := strip_len hb
  unfold sameFrame
  rw [ha, hb]
  simp only [Bool.and_eq_true, beq_iff_eq, Bool.true_and]
  omega
theorem sf_mk2 {a b : List UInt8} (ha : isStrip a = true) (hb : isStrip b = true) (hd : downOf a = downOf b) (hf : forwardOf a = forwardOf b) : sameFrame a b = true := by
  rw [down_strip ha, down_strip hb] at hd
  rw [forward_strip ha, forward_strip hb] at hf
  unfold sameFrame
  rw [ha, hb]
  simp only [Bool.and_eq_true, beq_iff_eq, Bool.true_and]
  omega

set_option maxHeartbeats 1600000 in
theorem i_SameFrame (s t : ByteArray) (w : World) (hs : s.size ≤ 16777216) (ht : t.size ≤ 16777216) :
    Calls Try.prog 157 #[.string s, .string t] w fun e w' => e = .returned (.bool (sameFrame s.data.toList t.data.toList)) ∧ w = w' := by
  have arm1 := fun (x : ByteArray) (w : World) (h : x.size ≤ 16777216) => i_IsStrip x w (by unfold maxLen; omega)
  have ARM1 := hide arm1
  have arm2 := fun (x : ByteArray) (w : World) (h : x.size ≤ 16777216) => i_DownOf x w (by unfold maxLen; omega)
  have ARM2 := hide arm2
  clear arm1 arm2
  cases h1 : isStrip s.data.toList
  · have HP := Lib.hid (sf_no1 (b := t.data.toList) h1)
    go_enter Try.func157, Try.ntmps157
    go_wp2_with (first | (go_at_call 97; refine (unhide ARM1 _ _ (by assumption)).mono ?_; rintro e w' ⟨rfl, rfl⟩))
    go_ret
    exact ⟨ret_bool HP.out.symm, rfl⟩
  · cases h2 : isStrip t.data.toList
    · have HP := Lib.hid (sf_no2 (a := s.data.toList) h2)
      go_enter Try.func157, Try.ntmps157
      go_wp2_with (first | (go_at_call 97; refine (unhide ARM1 _ _ (by assumption)).mono ?_; rintro e w' ⟨rfl, rfl⟩))
      go_ret
      exact ⟨ret_bool HP.out.symm, rfl⟩
    · by_cases h3 : s.size = t.size
      · have e3 : ((s.size : Int) == (t.size : Int)) = true := by rw [h3]; simp
        have H3 := Lib.hid h3
        clear h3
        by_cases h4 : downOf s.data.toList = downOf t.data.toList
        · have HP := Lib.hid (sf_mk h1 h2 (by simpa using H3.out) h4)
          have e4 : (downOf s.data.toList == downOf t.data.toList) = true := by rw [h4]; simp
          clear h4
          go_enter Try.func157, Try.ntmps157
          go_wp2_with (first | (go_at_call 97; refine (unhide ARM1 _ _ (by assumption)).mono ?_; rintro e w' ⟨rfl, rfl⟩) | (go_at_call 143; refine (unhide ARM2 _ _ (by assumption)).mono ?_; rintro e w' ⟨rfl, rfl⟩))
          go_ret
          exact ⟨ret_bool HP.out.symm, rfl⟩
        · have HP := Lib.hid (sf_down h1 h2 h4)
          have e4 : (downOf s.data.toList == downOf t.data.toList) = false := by simpa using h4
          clear h4
          go_enter Try.func157, Try.ntmps157
          go_wp2_with (first | (go_at_call 97; refine (unhide ARM1 _ _ (by assumption)).mono ?_; rintro e w' ⟨rfl, rfl⟩) | (go_at_call 143; refine (unhide ARM2 _ _ (by assumption)).mono ?_; rintro e w' ⟨rfl, rfl⟩))
          go_ret
          exact ⟨ret_bool HP.out.symm, rfl⟩
      · have HP := Lib.hid (sf_len h1 h2 (by simpa using h3))
        have e3 : ((s.size : Int) == (t.size : Int)) = false := by simpa using (show (s.size : Int) ≠ t.size by omega)
        clear h3
        go_enter Try.func157, Try.ntmps157
        go_wp2_with (first | (go_at_call 97; refine (unhide ARM1 _ _ (by assumption)).mono ?_; rintro e w' ⟨rfl, rfl⟩))
        go_ret
        exact ⟨ret_bool HP.out.symm, rfl⟩
set_option maxHeartbeats 1600000 in
theorem s_SameFrame (s t : ByteArray) (w : World) (hs : s.size ≤ 16777216) (ht : t.size ≤ 16777216) :
    Calls Try.prog 101 #[.string s, .string t] w fun e w' => e = .returned (.bool (sameFrame s.data.toList t.data.toList)) ∧ w = w' := by
  have arm1 := fun (x : ByteArray) (w : World) (h : x.size ≤ 16777216) => s_IsStrip x w (by unfold maxLen; omega)
  have ARM1 := hide arm1
  have arm2 := fun (x : ByteArray) (w : World) (h : x.size ≤ 16777216) => s_DownOf x w (by unfold maxLen; omega)
  have ARM2 := hide arm2
  have arm3 := fun (x : ByteArray) (w : World) (h : x.size ≤ 16777216) => s_ForwardOf x w (by unfold maxLen; omega)
  have ARM3 := hide arm3
  clear arm1 arm2 arm3
  cases h1 : isStrip s.data.toList
  · have HP := Lib.hid (sf_no1 (b := t.data.toList) h1)
    go_enter Try.func101, Try.ntmps101
    go_wp2_with (first | (go_at_call 85; refine (unhide ARM1 _ _ (by assumption)).mono ?_; rintro e w' ⟨rfl, rfl⟩))
    go_ret
    exact ⟨ret_bool HP.out.symm, rfl⟩
  · cases h2 : isStrip t.data.toList
    · have HP := Lib.hid (sf_no2 (a := s.data.toList) h2)
      go_enter Try.func101, Try.ntmps101
      go_wp2_with (first | (go_at_call 85; refine (unhide ARM1 _ _ (by assumption)).mono ?_; rintro e w' ⟨rfl, rfl⟩))
      go_ret
      exact ⟨ret_bool HP.out.symm, rfl⟩
    · by_cases h4 : downOf s.data.toList = downOf t.data.toList
      · have e4 : (downOf s.data.toList == downOf t.data.toList) = true := by rw [h4]; simp
        have H4 := Lib.hid h4
        clear h4
        by_cases h5 : forwardOf s.data.toList = forwardOf t.data.toList
        · have e5 : (forwardOf s.data.toList == forwardOf t.data.toList) = true := by rw [h5]; simp
          have HP := Lib.hid (sf_mk2 h1 h2 H4.out h5)
          clear h5
          go_enter Try.func101, Try.ntmps101
          go_wp2_with (first | (go_at_call 85; refine (unhide ARM1 _ _ (by assumption)).mono ?_; rintro e w' ⟨rfl, rfl⟩) | (go_at_call 148; refine (unhide ARM2 _ _ (by assumption)).mono ?_; rintro e w' ⟨rfl, rfl⟩) | (go_at_call 149; refine (unhide ARM3 _ _ (by assumption)).mono ?_; rintro e w' ⟨rfl, rfl⟩))
          go_ret
          exact ⟨ret_bool HP.out.symm, rfl⟩
        · have e5 : (forwardOf s.data.toList == forwardOf t.data.toList) = false := by simpa using h5
          have HP := Lib.hid (sf_forward h1 h2 h5)
          clear h5
          go_enter Try.func101, Try.ntmps101
          go_wp2_with (first | (go_at_call 85; refine (unhide ARM1 _ _ (by assumption)).mono ?_; rintro e w' ⟨rfl, rfl⟩) | (go_at_call 148; refine (unhide ARM2 _ _ (by assumption)).mono ?_; rintro e w' ⟨rfl, rfl⟩) | (go_at_call 149; refine (unhide ARM3 _ _ (by assumption)).mono ?_; rintro e w' ⟨rfl, rfl⟩))
          go_ret
          exact ⟨ret_bool HP.out.symm, rfl⟩
      · have e4 : (downOf s.data.toList == downOf t.data.toList) = false := by simpa using h4
        have HP := Lib.hid (sf_down h1 h2 h4)
        clear h4
        go_enter Try.func101, Try.ntmps101
        go_wp2_with (first | (go_at_call 85; refine (unhide ARM1 _ _ (by assumption)).mono ?_; rintro e w' ⟨rfl, rfl⟩) | (go_at_call 148; refine (unhide ARM2 _ _ (by assumption)).mono ?_; rintro e w' ⟨rfl, rfl⟩))
        go_ret
        exact ⟨ret_bool HP.out.symm, rfl⟩

/-- the height behind the first steps, from height u on -/
def hgt (u : Int) : List UInt8 → Int
  | [] => u
  | c :: l => if c = 102 then hgt u l else hgt (u - 1) l
/-- the heights at which the steps forward are taken -/
def hts (u : Int) : List UInt8 → List Int
  | [] => []
  | c :: l => if c = 102 then u :: hts u l else hts (u - 1) l
theorem hgt_snoc (u : Int) (l : List UInt8) (c : UInt8) : hgt u (l ++ [c]) = if c = 102 then hgt u l else hgt u l - 1 := by
  induction l generalizing u with
  | nil => simp [hgt]
  | cons x l ih => simp only [List.cons_append, hgt, ih]; split <;> rfl
theorem hts_snoc (u : Int) (l : List UInt8) (c : UInt8) : hts u (l ++ [c]) = hts u l ++ if c = 102 then [hgt u l] else [] := by
  induction l generalizing u with
  | nil => simp [hts, hgt]
  | cons x l ih => simp only [List.cons_append, hts, hgt, ih]; split <;> simp
theorem hts_len (u : Int) (l : List UInt8) : (hts u l).length = cnt 102 l := by
  induction l generalizing u with
  | nil => rfl
  | cons x l ih =>
    simp only [hts, cnt, List.count_cons]
    split
    · rename_i h; subst h; simp [ih, cnt]
    · rename_i h; simp [ih, cnt, h]
theorem hgt_bd (u : Int) (l : List UInt8) : u - l.length ≤ hgt u l ∧ hgt u l ≤ u := by
  induction l generalizing u with
  | nil => simp [hgt]
  | cons x l ih => simp only [hgt, List.length_cons]; split <;> (first | have := ih u | skip) <;> have := ih (u - 1) <;> omega
theorem hts_bd (u : Int) (l : List UInt8) : ∀ x ∈ hts u l, u - l.length ≤ x ∧ x ≤ u := by
  induction l generalizing u with
  | nil => intro x h; cases h
  | cons c l ih =>
    intro x h
    simp only [hts] at h
    split at h
    · rcases List.mem_cons.1 h with rfl | h
      · simp only [List.length_cons]; omega
      · have := ih u x h; simp only [List.length_cons]; omega
    · have := ih (u - 1) x h; simp only [List.length_cons]; omega
/-- the heights of a strip -/
def htsOf (l : List UInt8) : List Int := hts (cnt 100 l) l

theorem info_int : (Try.prog.info? 3).map (fun i => (i.zero, i.size, i.bytes)) = some (some (.int .i64 0), 1, 8) := by kernel_rfl
def ints (l : List Int) : List Value := l.map (Value.int .i64)
/-- a []int of the call's own -/
def FreshInts (base : Nat) (l : List Int) (w : World) (e : Ending) (w' : World) : Prop :=
  ∃ A c, e = .returned (.slice A l.length c) ∧ w'.ownsRow base 3 1 (.slice A l.length c) l.length (ints l) ∧ Below w.heap.size w w'
end Go.Proofs.Yteffbjddgdjkmaa
