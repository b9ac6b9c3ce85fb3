/- Contracts of the program's and the reference's functions (Area1, Area2, Area3, Area4). -/
import Derived.Deep.RegionHeld3
import Derived.Deep.Upon
import Derived.IntWalk
import Derived.Test.YtccjedongkokoaaRows
import Derived.Test.YtccjedongkokoaaQXb
namespace Go.Proofs.Ytccjedongkokoaa
open Go.ChangeShapes Go.WideShapes Go.ChangeAt Go.RowKit
set_option linter.unusedVariables false
set_option maxRecDepth 10000
def sameFrame (a b : List UInt8) : Bool := (isStrip a && isStrip b) && ((cnt 100 a == cnt 100 b) && (cnt 102 a == cnt 102 b))
theorem strip_len {l : List UInt8} (h : isStrip l = true) : cnt 100 l + cnt 102 l = l.length ∧ 1 ≤ cnt 100 l ∧ cnt 100 l ≤ 8 ∧ 1 ≤ cnt 102 l ∧ cnt 102 l ≤ 8 := by
  unfold isStrip at h
  simp only [Bool.and_eq_true, beq_iff_eq, inB, decide_eq_true_eq] at h
  omega
theorem down_strip {l : List UInt8} (h : isStrip l = true) : downOf l = cnt 100 l := by unfold downOf; rw [if_pos h]
theorem sf_no1 {a b : List UInt8} (h : isStrip a = false) : sameFrame a b = false := by unfold sameFrame; rw [h]; rfl
theorem sf_no2 {a b : List UInt8} (h : isStrip b = false) : sameFrame a b = false := by unfold sameFrame; rw [h]; simp
theorem sf_yes {a b : List UInt8} (h : sameFrame a b = true) : isStrip a = true ∧ isStrip b = true ∧ cnt 100 a = cnt 100 b ∧ cnt 102 a = cnt 102 b := by
  unfold sameFrame at h
  simp only [Bool.and_eq_true, beq_iff_eq] at h
  exact ⟨h.1.1, h.1.2, h.2.1, h.2.2⟩
theorem sf_len {a b : List UInt8} (ha : isStrip a = true) (hb : isStrip b = true) (h : a.length ≠ b.length) : sameFrame a b = false := by
  cases hs : sameFrame a b
  · rfl
  · obtain ⟨_, _, h1, h2⟩ := sf_yes hs
    have := strip_len ha; have := strip_len hb; omega
theorem sf_down {a b : List UInt8} (ha : isStrip a = true) (hb : isStrip b = true) (h : downOf a ≠ downOf b) : sameFrame a b = false := by
  cases hs : sameFrame a b
  · rfl
  · obtain ⟨_, _, h1, h2⟩ := sf_yes hs
    rw [down_strip ha, down_strip hb] at h; omega
theorem sf_mk {a b : List UInt8} (ha : isStrip a = true) (hb : isStrip b = true) (h : a.length = b.length) (hd : downOf a = downOf b) : sameFrame a b = true := by
  rw [down_strip ha, down_strip hb] at hd
  have := strip_len ha; have := strip_len hb
  unfold sameFrame
  rw [ha, hb]
  simp only [Bool.and_eq_true, beq_iff_eq, Bool.true_and]
  omega
set_option maxHeartbeats 1600000 in
theorem i_SameFrame (s t : ByteArray) (w : World) (hs : s.size ≤ 16777216) (ht : t.size ≤ 16777216) :
    Calls Try.prog 108 #[.string s, .string t] w fun e w' => e = .returned (.bool (sameFrame s.data.toList t.data.toList)) ∧ w = w' := by
  have arm1 := fun (x : ByteArray) (w : World) (h : x.size ≤ 16777216) => i_IsStrip x w (by unfold maxLen; omega)
  have ARM1 := hide arm1
  have arm2 := fun (x : ByteArray) (w : World) (h : x.size ≤ 16777216) => i_DownOf x w (by unfold maxLen; omega)
  have ARM2 := hide arm2
  clear arm1 arm2
  cases h1 : isStrip s.data.toList
  · have HP := Lib.hid (sf_no1 (b := t.data.toList) h1)
    go_enter Try.func108, Try.ntmps108
    go_wp2_with (first | (go_at_call 125; refine (unhide ARM1 _ _ (by assumption)).mono ?_; rintro e w' ⟨rfl, rfl⟩))
    go_ret
    exact ⟨ret_bool HP.out.symm, rfl⟩
  · cases h2 : isStrip t.data.toList
    · have HP := Lib.hid (sf_no2 (a := s.data.toList) h2)
      go_enter Try.func108, Try.ntmps108
      go_wp2_with (first | (go_at_call 125; refine (unhide ARM1 _ _ (by assumption)).mono ?_; rintro e w' ⟨rfl, rfl⟩))
      go_ret
      exact ⟨ret_bool HP.out.symm, rfl⟩
    · by_cases h3 : s.size = t.size
      · have e3 : ((s.size : Int) == (t.size : Int)) = true := by rw [h3]; simp
        have H3 := Lib.hid h3
        clear h3
        by_cases h4 : downOf s.data.toList = downOf t.data.toList
        · have HP := Lib.hid (sf_mk h1 h2 (by simpa using H3.out) h4)
          have e4 : (downOf s.data.toList == downOf t.data.toList) = true := by rw [h4]; simp
          clear h4
          go_enter Try.func108, Try.ntmps108
          go_wp2_with (first | (go_at_call 125; refine (unhide ARM1 _ _ (by assumption)).mono ?_; rintro e w' ⟨rfl, rfl⟩) | (go_at_call 87; refine (unhide ARM2 _ _ (by assumption)).mono ?_; rintro e w' ⟨rfl, rfl⟩))
          go_ret
          exact ⟨ret_bool HP.out.symm, rfl⟩
        · have HP := Lib.hid (sf_down h1 h2 h4)
          have e4 : (downOf s.data.toList == downOf t.data.toList) = false := by simpa using h4
          clear h4
          go_enter Try.func108, Try.ntmps108
          go_wp2_with (first | (go_at_call 125; refine (unhide ARM1 _ _ (by assumption)).mono ?_; rintro e w' ⟨rfl, rfl⟩) | (go_at_call 87; refine (unhide ARM2 _ _ (by assumption)).mono ?_; rintro e w' ⟨rfl, rfl⟩))
          go_ret
          exact ⟨ret_bool HP.out.symm, rfl⟩
      · have HP := Lib.hid (sf_len h1 h2 (by simpa using h3))
        have e3 : ((s.size : Int) == (t.size : Int)) = false := by simpa using (show (s.size : Int) ≠ t.size by omega)
        clear h3
        go_enter Try.func108, Try.ntmps108
        go_wp2_with (first | (go_at_call 125; refine (unhide ARM1 _ _ (by assumption)).mono ?_; rintro e w' ⟨rfl, rfl⟩))
        go_ret
        exact ⟨ret_bool HP.out.symm, rfl⟩
def hgt (u : Int) : List UInt8 → Int
  | [] => u
  | c :: l => if c = 102 then hgt u l else hgt (u - 1) l
def hts (u : Int) : List UInt8 → List Int
  | [] => []
  | c :: l => if c = 102 then u :: hts u l else hts (u - 1) l
theorem hgt_snoc (u : Int) (l : List UInt8) (c : UInt8) : hgt u (l ++ [c]) = if c = 102 then hgt u l else hgt u l - 1 := by
  induction l generalizing u with
  | nil => simp [hgt]
  | cons x l ih => simp only [List.cons_append, hgt, ih]; split <;> rfl
theorem hts_snoc (u : Int) (l : List UInt8) (c : UInt8) : hts u (l ++ [c]) = hts u l ++ if c = 102 then [hgt u l] else [] := by
  induction l generalizing u with
  | nil => simp [hts, hgt]
  | cons x l ih => simp only [List.cons_append, hts, hgt, ih]; split <;> simp
theorem hts_len (u : Int) (l : List UInt8) : (hts u l).length = cnt 102 l := by
  induction l generalizing u with
  | nil => rfl
  | cons x l ih =>
    simp only [hts, cnt, List.count_cons]
    split
    · rename_i h; subst h; simp [ih, cnt]
    · rename_i h; simp [ih, cnt, h]
theorem hgt_bd (u : Int) (l : List UInt8) : u - l.length ≤ hgt u l ∧ hgt u l ≤ u := by
  induction l generalizing u with
  | nil => simp [hgt]
  | cons x l ih => simp only [hgt, List.length_cons]; split <;> (first | have := ih u | skip) <;> have := ih (u - 1) <;> omega
theorem hts_bd (u : Int) (l : List UInt8) : ∀ x ∈ hts u l, u - l.length ≤ x ∧ x ≤ u := by
  induction l generalizing u with
  | nil => intro x h; cases h
  | cons c l ih =>
    intro x h
    simp only [hts] at h
    split at h
    · rcases List.mem_cons.1 h with rfl | h
      · simp only [List.length_cons]; omega
      · have := ih u x h; simp only [List.length_cons]; omega
    · have := ih (u - 1) x h; simp only [List.length_cons]; omega
def htsOf (l : List UInt8) : List Int := hts (cnt 100 l) l
theorem info_int : (Try.prog.info? 3).map (fun i => (i.zero, i.size, i.bytes)) = some (some (.int .i64 0), 1, 8) := by kernel_rfl
def ints (l : List Int) : List Value := l.map (Value.int .i64)
def FreshInts (base : Nat) (l : List Int) (w : World) (e : Ending) (w' : World) : Prop :=
  ∃ A c, e = .returned (.slice A l.length c) ∧ w'.ownsRow base 3 1 (.slice A l.length c) l.length (ints l) ∧ Below w.heap.size w w'
end Go.Proofs.Ytccjedongkokoaa
namespace Go.Proofs.Ytccjedongkokoaa
open Go.ChangeShapes Go.WideShapes Go.ChangeAt Go.RowKit
set_option linter.unusedVariables false
set_option maxRecDepth 10000
theorem ints_snoc (l : List Int) (x : Int) : ints (l ++ [x]) = ints l ++ [Value.int .i64 x] := by simp [ints]
theorem htsOf_len (l : List UInt8) : (htsOf l).length = cnt 102 l := hts_len _ _
theorem fresh_ints {w wr : World} {N : Nat} {A : Option Addr} {c : Nat} {l : List Int} (hN : l.length = N) (ho : wr.ownsRow w.heap.size 3 1 (.slice A N c) N (ints l)) (hb : Below w.heap.size w wr) : FreshInts w.heap.size l w (.returned (.slice A N c)) wr := by
  subst hN; exact ⟨A, c, rfl, ho, hb⟩
set_option maxHeartbeats 1600000 in
theorem s_l07Heights (s : ByteArray) (w : World) (hs : s.size ≤ 16777216) :
    Calls Try.prog 101 #[.string s] w (FreshInts w.heap.size (htsOf s.data.toList) w) := by
  have hcl := cnt_le 100 s.data.toList
  have hlen : s.data.toList.length = s.size := by simp
  have HLEN := Lib.hid hlen
  have hcb : (cnt 100 s.data.toList : Int) ≤ 16777216 := by omega
  clear hcl hlen
  obtain ⟨i0, hi0, hz0, hz1, hz2⟩ := info_parts info_int
  go_enter Try.func101, Try.ntmps101
  go_wp2_with (first | (go_at_call 134; refine (s_l02Count s 100 _ (by unfold maxLen; omega)).mono ?_; rintro e w' ⟨rfl, rfl⟩))
  go_loopw [3, 4, 5] (fun o h i wr => ∃ (k N : Nat) (A' : Option Addr) (c' : Nat), k ≤ s.size ∧ N ≤ k ∧ i = .int .i64 k ∧ o = .slice A' N c' ∧ h = .int .i64 (hgt (cnt 100 s.data.toList) (s.data.toList.take k)) ∧ Hid ((hts (cnt 100 s.data.toList) (s.data.toList.take k)).length = N) ∧
      wr.ownsRow w.heap.size 3 1 (.slice A' N c') N (ints (hts (cnt 100 s.data.toList) (s.data.toList.take k))) ∧ Below w.heap.size w wr) (fun _ _ i _ => s.size - (intOf i).toNat)
  case atStart => exact ⟨0, 0, some ⟨w.heap.size, 0, none⟩, 0, Nat.zero_le _, Nat.le_refl _, rfl, rfl, by simp [hgt], by unfold Hid; simp [hts], by first | exact World.ownsRow_made w #[] 0 (Nat.le_refl _) (by unfold maxLen; omega) rfl | simpa [hts, ints] using (World.ownsRow_made (e := 3) (size := 1) w #[] 0 (Nat.le_refl _) (by unfold maxLen; omega) rfl), bel⟩
  case round =>
    obtain ⟨k, N, A', c', hk, hNk, rfl, rfl, rfl, HN, hown, hb⟩ := hrel
    have hbs := hb.size
    have hh := hgt_bd (cnt 100 s.data.toList) (s.data.toList.take k)
    rw [List.length_take, HLEN.out] at hh
    have hh1 : -16777216 ≤ hgt (cnt 100 s.data.toList) (s.data.toList.take k) := by omega
    have hh2 : hgt (cnt 100 s.data.toList) (s.data.toList.take k) ≤ 16777216 := by omega
    clear hh
    by_cases hlt : k < s.size
    · have HTS := Lib.hid (take_snoc s k hlt)
      by_cases hc : s[k] = 102
      · have hb1 : ((s[k].toNat : Int) == 102) = true := by rw [hc]; rfl
        have HH : Hid (hgt (cnt 100 s.data.toList) (s.data.toList.take (k + 1)) = hgt (cnt 100 s.data.toList) (s.data.toList.take k)) := by unfold Hid; rw [HTS.out, hgt_snoc, if_pos hc]
        have HT : Hid (hts (cnt 100 s.data.toList) (s.data.toList.take (k + 1)) = hts (cnt 100 s.data.toList) (s.data.toList.take k) ++ [hgt (cnt 100 s.data.toList) (s.data.toList.take k)]) := by unfold Hid; rw [HTS.out, hts_snoc, if_pos hc]
        clear hc
        have hone : ∀ u ∈ [Value.int .i64 (hgt (cnt 100 s.data.toList) (s.data.toList.take k))], u.oneCell' = true := by intro u hu; simp at hu; subst hu; rfl
        have HO := hide hone
        clear hone
        go_wp2_with (at_builtin; refine wpList_append_N _ rfl (.tmp 19) (.tmp 21) _ rfl w.heap.size 3 i0 _ 1 8 Try.underlying64 hi0 hz0 hz1 hz2 rfl (by omega) (.slice A' N c') N _ rfl (hown.alloc _) (wr.heap.size + 1) (some ⟨wr.heap.size, 0, none⟩) 1 1 [Value.int .i64 (hgt (cnt 100 s.data.toList) (s.data.toList.take k))] rfl (reads_one _ _) (unhide HO) ?_ ?_ ?_ (N + 1) _ rfl (ints_snoc _ _).symm ?_; (unfold maxLen; omega); omega; (simp; omega); intro A2 c2 w3 ho3 hb3)
        go_roundw
        case rel => exact ⟨k + 1, N + 1, A2, c2, by omega, by omega, by go_num, rfl, by rw [HH.out], by unfold Hid; rw [HT.out, List.length_append, HN.out]; rfl, by rw [HT.out]; exact ho3, bel⟩
        case measure => simp [intOf]; omega
      · have hb1 : ((s[k].toNat : Int) == 102) = false := by
          rw [beq_eq_false_iff_ne]; intro h; apply hc; apply UInt8.toNat_inj.1; show _ = 102; omega
        have HH : Hid (hgt (cnt 100 s.data.toList) (s.data.toList.take (k + 1)) = hgt (cnt 100 s.data.toList) (s.data.toList.take k) - 1) := by unfold Hid; rw [HTS.out, hgt_snoc, if_neg hc]
        have HT : Hid (hts (cnt 100 s.data.toList) (s.data.toList.take (k + 1)) = hts (cnt 100 s.data.toList) (s.data.toList.take k)) := by unfold Hid; rw [HTS.out, hts_snoc, if_neg hc, List.append_nil]
        clear hc
        go_wp2
        go_roundw
        case rel => exact ⟨k + 1, N, A', c', by omega, by omega, by go_num, rfl, by rw [HH.out], by unfold Hid; rw [HT.out]; exact HN.out, by rw [HT.out]; exact hown, hb⟩
        case measure => simp [intOf]; omega
    · have hke : k = s.size := by omega
      have ht : s.data.toList.take k = s.data.toList := List.take_of_length_le (by rw [HLEN.out]; omega)
      rw [ht] at hown HN
      have HF := hide (fresh_ints (l := htsOf s.data.toList) HN.out hown hb)
      clear ht hown hh1 hh2
      subst hke
      go_wp2
      go_ret
      exact unhide HF
end Go.Proofs.Ytccjedongkokoaa
namespace Go.Proofs.Ytccjedongkokoaa
open Go.ChangeShapes Go.WideShapes Go.ChangeAt Go.RowKit
set_option linter.unusedVariables false
set_option maxRecDepth 10000
def areaL : List Int → List Int → Int
  | a :: l, b :: m => max (a - b) (b - a) + areaL l m
  | _, _ => 0
def areaOf (s t : List UInt8) : Int := if sameFrame s t = true then areaL (htsOf s) (htsOf t) else -1
theorem hts_strip {l : List UInt8} (h : isStrip l = true) : (htsOf l).length ≤ 8 ∧ ∀ x ∈ htsOf l, -16 ≤ x ∧ x ≤ 16 := by
  have h1 := strip_len h
  refine ⟨by rw [htsOf_len]; omega, fun x hx => ?_⟩
  have := hts_bd _ _ x hx
  omega
theorem ints_at {w : World} {B : Nat} {A : Option Addr} {n k : Nat} {l : List Int} (h : Reads w B 1 A n (ints l)) (hk : k < n) : ∃ (hk' : k < l.length) (ad : Addr), A = some ad ∧ ad.block < B ∧ w.cell? (ad.add k) = some (.int .i64 l[k]) := by
  obtain ⟨ad, u, rfl, hb, hx, hc⟩ := h.at_ hk
  have hl : k < l.length := by
    have := h.1
    simp [ints] at this
    omega
  refine ⟨hl, ad, rfl, hb, ?_⟩
  rw [hc]
  unfold ints at hx
  rw [List.getElem?_map, List.getElem?_eq_getElem hl] at hx
  simpa using hx.symm
end Go.Proofs.Ytccjedongkokoaa
namespace Go.Proofs.Ytccjedongkokoaa
open Go.ChangeShapes Go.WideShapes Go.ChangeAt Go.RowKit
set_option linter.unusedVariables false
set_option maxRecDepth 10000
def alike (d f d2 f2 : Int) (ss ts : List ByteArray) : Bool := cardOk d f ss && (cardOk d2 f2 ts && ((d == d2) && ((f == f2) && ((ss.length : Int) == (ts.length : Int)))))
def costL : List ByteArray → List ByteArray → Int
  | a :: l, b :: m => areaOf a.data.toList b.data.toList + costL l m
  | _, _ => 0
def costOf (d f d2 f2 : Int) (ss ts : List ByteArray) : Int := if alike d f d2 f2 ss ts = true then costL ss ts else -1
def sideOf (d f d2 f2 : Int) (ss ts : List ByteArray) : Int :=
  if costOf d f d2 f2 ss ts < 0 then -1 else min (costOf d f d2 f2 ss ts) (costOf d f (mirrorRes d2 f2 ts).1 (mirrorRes d2 f2 ts).2.1 ss (mirrorRes d2 f2 ts).2.2)
end Go.Proofs.Ytccjedongkokoaa
