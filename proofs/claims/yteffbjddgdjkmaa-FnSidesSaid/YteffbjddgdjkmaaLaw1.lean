/- The contracts of the law package's helpers over strings and cards: marks, equality, sizes, copies. -/
import Derived.Test.YteffbjddgdjkmaaCard1
import Derived.Deep.RegionHeld3
namespace Go.Proofs.Yteffbjddgdjkmaa
open Go.ChangeShapes Go.WideShapes Go.ChangeAt Go.RowKit
set_option linter.unusedVariables false
set_option maxRecDepth 10000

def digs : Nat → Nat → List UInt8 → List UInt8
  | 0, _, acc => acc
  | f + 1, k, acc => if k = 0 then acc else digs f (k / 10) ((48 + k % 10).toUInt8 :: acc)
theorem digs_zero (f : Nat) (acc : List UInt8) : digs f 0 acc = acc := by cases f <;> simp [digs]
/-- what markText returns -/
def markL (k : Int) : List UInt8 := if k ≤ 0 then [109, 48] else 109 :: digs k.toNat k.toNat []
def markT (k : Int) : ByteArray := ⟨(markL k).toArray⟩

theorem size_one (x : UInt8) : (⟨#[x]⟩ : ByteArray).size = 1 := rfl
theorem conv_one (x : Int) (W : World) (h0 : 0 ≤ x) (h1 : x ≤ 255) :
    (convert 22 9 (.slice (some ⟨W.heap.size, 0, none⟩) 1 1)).run Try.prog (W.alloc (.cells #[.int .u8 x] 5)) = .ok (.string ⟨#[x.toNat.toUInt8]⟩) (W.alloc (.cells #[.int .u8 x] 5)) := by
  have h := run_convert_bytes_back (P := Try.prog) (W.alloc (.cells #[.int .u8 x] 5)) 22 9 5 ⟨W.heap.size, 0, none⟩ 1 [x.toNat.toUInt8] Try.underlying22 Try.underlying5 Try.underlying9
    (fun j hj => by
      have : j = 0 := by simp at hj; omega
      subst this
      show (W.alloc (.cells #[.int .u8 x] 5)).cell? ⟨W.heap.size, 0, none⟩ = _
      rw [World.cell?_alloc_mark]
      obtain ⟨X, rfl⟩ := Int.eq_ofNat_of_zero_le h0
      have hX : X < 256 := by omega
      simp [Nat.mod_eq_of_lt hX])
  exact h

set_option maxHeartbeats 400000 in
theorem l_markText (k : Int) (w : World) (hk0 : 0 ≤ k) (hk1 : k ≤ 1152921504606846976) :
    Calls Try.prog 138 #[.int .i64 k] w fun e w' => e = .returned (.string (markT k)) ∧ Below w.heap.size w w' := by
  by_cases hz : k ≤ 0
  · have HF : Hid (markT k = ⟨#[109, 48]⟩) := by unfold Hid markT markL; rw [if_pos hz]
    go_enter Try.func138, Try.ntmps138
    go_wp2
    go_ret
    exact ⟨ret_str HF.out.symm, Below.refl _ _⟩
  · obtain ⟨K, rfl⟩ := Int.eq_ofNat_of_zero_le hk0
    have HF : Hid (markT K = ⟨(109 :: digs K K []).toArray⟩) := by unfold Hid markT markL; rw [if_neg hz]; simp
    go_enter Try.func138, Try.ntmps138
    go_wp2
    go_loopw [0, 3] (fun n o wr => ∃ (q f : Nat) (acc : ByteArray), n = .int .i64 q ∧ acc.size + q ≤ K ∧ q ≤ f ∧ o = .string acc ∧ Hid (digs f q acc.data.toList = digs K K []) ∧ Below w.heap.size w wr) (fun n _ _ => (intOf n).toNat)
    case atStart => exact ⟨K, K, _, rfl, by show 0 + K ≤ K; omega, Nat.le_refl _, rfl, by unfold Hid; rfl, Below.refl _ _⟩
    case round =>
      obtain ⟨q, f, acc, rfl, hq, hf, rfl, HD, hb⟩ := hrel
      have hbs := hb.size
      by_cases h0 : 0 < q
      · have hcv := conv_one (48 + (q : Int) % 10) wr (by omega) (by omega)
        go_wp2
        go_roundw
        case rel =>
          obtain ⟨f', rfl⟩ : ∃ f', f = f' + 1 := ⟨f - 1, by omega⟩
          refine ⟨q / 10, f', _, by go_num, by rw [ByteArray.size_append, size_one]; omega, by omega, rfl, ?_, bel⟩
          have h := HD.out
          simp only [digs] at h
          rw [if_neg (by omega)] at h
          unfold Hid
          rw [← h]
          congr 1
          simp
        case measure => simp [intOf]; omega
      · have hq0 : q = 0 := by omega
        subst hq0
        have HE : Hid (markT K = ⟨(109 :: acc.data.toList).toArray⟩) := by
          unfold Hid; rw [HF.out, ← HD.out, digs_zero]
        go_wp2
        go_ret
        exact ⟨ret_str (by rw [HE.out]; apply ba_ext; simp [ByteArray.data_append]), hb⟩

theorem own_cell {w : World} {base : Nat} {e : TypeId} {g n c j : Nat} {xs : List Value} (h : w.ownsRow base e 1 (.slice (some ⟨g, 0, none⟩) n c) n xs) (hj : j < n) : ∃ u, w.cell? ⟨g, j, none⟩ = some u := by
  have hl := h.1
  rw [h.cellAt j (by omega), List.getElem?_eq_getElem (by omega)]
  exact ⟨_, rfl⟩

/-- the cells that markStringS leaves -/
def marks (k : Int) (n : Nat) : List Value := (List.range n).map fun i => Value.string (markT (k + (i : Nat)))
theorem marks_len (k : Int) (n : Nat) : (marks k n).length = n := by simp [marks]
theorem marks_succ (k : Int) (n : Nat) : marks k (n + 1) = marks k n ++ [.string (markT (k + n))] := by
  simp [marks, List.range_succ]
theorem marks_step (k : Int) (i : Nat) (xs : List Value) (hi : i < xs.length) : (marks k i ++ xs.drop i).set i (.string (markT (k + i))) = marks k (i + 1) ++ xs.drop (i + 1) := by
  rw [marks_succ, List.set_append, if_neg (by simp [marks_len]), marks_len, Nat.sub_self, List.drop_eq_getElem_cons hi, List.set_cons_zero, List.append_assoc]
  rfl

def Marked (base : Nat) (v : Value) (n : Nat) (k : Int) (w : World) (e : Ending) (w' : World) : Prop :=
  e = .returned (.int .i64 (k + n)) ∧ w'.ownsRow base 9 1 v n (marks k n) ∧ w.grownBy w' v.ownBlock

set_option maxHeartbeats 400000 in
theorem l_markStringS (base : Nat) (A : Option Addr) (n c : Nat) (xs : List Value) (k : Int) (w : World) (hO : w.ownsRow base 9 1 (.slice A n c) n xs) (hk0 : 0 ≤ k) (hk1 : k ≤ 4503599627370496) (hn : n ≤ 16777216) :
    Calls Try.prog 139 #[.slice A n c, .int .i64 k] w (Marked base (.slice A n c) n k w) := by
  go_enter Try.func139, Try.ntmps139
  go_wp2
  go_loopw [1, 5] (fun q i wr => ∃ j : Nat, j ≤ n ∧ i = .int .i64 j ∧ q = .int .i64 (k + j) ∧ wr.ownsRow base 9 1 (.slice A n c) n (marks k j ++ xs.drop j) ∧ w.grownBy wr (Value.slice A n c).ownBlock) (fun _ i _ => n - (intOf i).toNat)
  case atStart => exact ⟨0, Nat.zero_le _, rfl, by go_num, by simpa [marks] using hO, World.grownBy.refl w _⟩
  case round =>
    obtain ⟨j, hj, rfl, rfl, hown, hg⟩ := hrel
    by_cases hlt : j < n
    · obtain ⟨g, cap, hv, hbg, hglt⟩ := hown.form (by omega)
      have hA : A = some ⟨g, 0, none⟩ := by injection hv
      subst hA
      clear hv
      have hlen : (marks k j ++ xs.drop j).length = n := by have := hown.1; omega
      have hxl : xs.length = n := by have := hO.1; omega
      have HX := Lib.hid hxl
      have HL := Lib.hid hlen
      clear hlen hxl
      go_wp2_with (go_at_call 138; refine (l_markText _ _ (by omega) (by omega)).mono ?_; rintro e w1 ⟨rfl, hb1⟩; have ho1 := own_below hown hb1; obtain ⟨u1, hc1⟩ := own_cell ho1 (j := j) (by omega); have hf1 := ho1.frozenAt j)
      go_roundw
      case rel =>
        have hst := ho1.stored j (.string (markT (k + j)))
        refine ⟨j + 1, by omega, by go_num, by go_num, ?_, ?_⟩
        · rw [← marks_step k j xs (by have := HX.out; omega)]; exact hst.1
        · exact only_trans (only_below hg hb1) hst.2
      case measure => simp [intOf]; omega
    · have hjn : j = n := by omega
      subst hjn
      have hxl : xs.length = j := by have := hO.1; omega
      have hd : xs.drop j = [] := List.drop_eq_nil_of_le (by omega)
      rw [hd, List.append_nil] at hown
      clear hd hxl
      go_wp2
      go_ret
      exact ⟨rfl, hown, hg⟩




def eqSS (ss ts : List ByteArray) : Bool := decide (ss = ts)

theorem beq_toList_true {a b : ByteArray} (h : a = b) : (a.toList == b.toList) = true := by rw [h]; simp
theorem toList_inj {a b : ByteArray} (h : a.toList = b.toList) : a = b := by
  rw [ByteArray.toList_eq, ByteArray.toList_eq] at h
  exact ba_ext h
theorem beq_toList_false {a b : ByteArray} (h : a ≠ b) : (a.toList == b.toList) = false := by
  rw [beq_eq_false_iff_ne]; exact fun h' => h (toList_inj h')
set_option maxHeartbeats 400000 in
theorem l_eqStringS (B : Nat) (A1 A2 : Option Addr) (n1 n2 c1 c2 : Nat) (ss ts : List ByteArray) (w : World) (h1 : Strs w B A1 n1 ss) (h2 : Strs w B A2 n2 ts) (hB : B ≤ w.heap.size) :
    Calls Try.prog 209 #[.slice A1 n1 c1, .slice A2 n2 c2] w fun e w' => e = .returned (.bool (eqSS ss ts)) ∧ Below w.heap.size w w' := by
  have hl1 := h1.len
  have hl2 := h2.len
  have hn1 := h1.nb
  have hn2 := h2.nb
  by_cases hn : n1 = n2
  · subst hn
    have HL1 := Lib.hid hl1
    have HL2 := Lib.hid hl2
    clear hl1 hl2
    go_enter Try.func209, Try.ntmps209
    go_wp2
    go_loopw [5] (fun i wr => ∃ j m : Nat, j ≤ n1 ∧ i = .int .i64 j ∧ wr = w.drewN m ∧ Hid (ss.take j = ts.take j)) (fun i _ => n1 - (intOf i).toNat)
    case atStart => exact ⟨0, 0, Nat.zero_le _, rfl, rfl, by unfold Hid; simp⟩
    case round =>
      obtain ⟨j, m, hj, rfl, rfl, HT⟩ := hrel
      by_cases hlt : j < n1
      · obtain ⟨hk1, ad1, rfl, hab1, hc1, _⟩ := h1.at_ hlt
        obtain ⟨hk2, ad2, rfl, hab2, hc2, _⟩ := h2.at_ hlt
        by_cases he : ss[j] = ts[j]
        · have HE := Lib.hid he
          have hbq := beq_toList_true he
          clear he
          go_wp2
          go_quiet (fail)
          go_wp2
          go_roundw
          case rel =>
            refine ⟨j + 1, _, by omega, by go_num, rfl, ?_⟩
            unfold Hid
            rw [List.take_succ_eq_append_getElem hk1, List.take_succ_eq_append_getElem hk2, HT.out, HE.out]
          case measure => simp [intOf]; omega
        · have HF : Hid (eqSS ss ts = false) := by
            unfold Hid eqSS
            rw [decide_eq_false_iff_not]
            intro h; subst h; exact he rfl
          have hbq := beq_toList_false he
          clear he
          go_wp2
          go_quiet (fail)
          go_wp2
          go_ret
          exact ⟨ret_bool HF.out.symm, bel⟩
      · have HF : Hid (eqSS ss ts = true) := by
          unfold Hid eqSS
          rw [decide_eq_true_iff]
          have h := HT.out
          rw [List.take_of_length_le (by have := HL1.out; omega), List.take_of_length_le (by have := HL2.out; omega)] at h
          exact h
        go_wp2
        go_ret
        exact ⟨ret_bool HF.out.symm, bel⟩
  · have HF : Hid (eqSS ss ts = false) := by
      unfold Hid eqSS
      rw [decide_eq_false_iff_not]
      intro h; subst h; omega
    clear hl1 hl2
    go_enter Try.func209, Try.ntmps209
    go_wp2
    go_ret
    exact ⟨ret_bool HF.out.symm, bel⟩

set_option maxHeartbeats 400000 in
theorem l_eqCard (B : Nat) (d1 f1 d2 f2 : Int) (A1 A2 : Option Addr) (n1 n2 c1 c2 : Nat) (ss ts : List ByteArray) (w : World) (h1 : Strs w B A1 n1 ss) (h2 : Strs w B A2 n2 ts) (hB : B ≤ w.heap.size) :
    Calls Try.prog 183 #[.agg #[.int .i64 d1, .int .i64 f1, .slice A1 n1 c1], .agg #[.int .i64 d2, .int .i64 f2, .slice A2 n2 c2]] w fun e w' => e = .returned (.bool (((d1 == d2) && (f1 == f2)) && eqSS ss ts)) ∧ Below w.heap.size w w' := by
  cases he : eqSS ss ts <;> cases hd : (d1 == d2) <;> cases hf : (f1 == f2) <;>
  · have hd' : (d1 != d2) = !(d1 == d2) := rfl
    have hf' : (f1 != f2) = !(f1 == f2) := rfl
    rw [hd] at hd'
    rw [hf] at hf'
    simp only [Bool.not_true, Bool.not_false] at hd' hf'
    go_enter Try.func183, Try.ntmps183
    go_wp2_with (go_at_call 209; refine (l_eqStringS B _ _ _ _ _ _ _ _ _ ((h1.alloc hB _).alloc (by simp; omega) _) ((h2.alloc hB _).alloc (by simp; omega) _) (by simp; omega)).mono ?_; rintro e w1 ⟨rfl, hb1⟩)
    go_ret
    exact ⟨rfl, bel⟩

/-- how many letters strings have together -/
def tot : List ByteArray → Nat
  | [] => 0
  | s :: r => s.size + tot r
theorem tot_append (a b : List ByteArray) : tot (a ++ b) = tot a + tot b := by
  induction a with
  | nil => simp [tot]
  | cons x r ih => simp only [List.cons_append, tot, ih]; omega
theorem tot_mem {s : ByteArray} {l : List ByteArray} (h : s ∈ l) : s.size ≤ tot l := by
  induction l with
  | nil => cases h
  | cons x r ih =>
    rcases List.mem_cons.1 h with rfl | h
    · simp only [tot]; omega
    · have := ih h; simp only [tot]; omega
def szStrs (ss : List ByteArray) (left : Int) : Int := if left - ss.length - tot ss < 0 then -1 else left - ss.length - tot ss

set_option maxHeartbeats 400000 in
theorem l_szStringS (B : Nat) (A : Option Addr) (n c : Nat) (ss : List ByteArray) (left : Int) (w : World) (hR : Reads w B 1 A n (ss.map Value.string)) (hn : n ≤ 9223372036854775807) (hs : ∀ s ∈ ss, s.size ≤ 9223372036854775807) (h0 : -1 ≤ left) (h1 : left ≤ 1048576) :
    Calls Try.prog 207 #[.slice A n c, .int .i64 left] w fun e w' => e = .returned (.int .i64 (szStrs ss left)) ∧ w = w' := by
  have hl : ss.length = n := by have := hR.1; simpa using this
  by_cases hlt : left - n < 0
  · have HF : Hid (szStrs ss left = -1) := by unfold Hid szStrs; rw [if_pos (by omega)]
    have HL := Lib.hid hl
    clear hl
    go_enter Try.func207, Try.ntmps207
    go_wp2
    go_ret
    exact ⟨ret_int HF.out.symm, rfl⟩
  · have HL := Lib.hid hl
    clear hl
    go_enter Try.func207, Try.ntmps207
    go_wp2
    go_loop [1, 5] (fun q i => ∃ j : Nat, j ≤ n ∧ i = .int .i64 j ∧ q = .int .i64 (left - n - tot (ss.take j)) ∧ 0 ≤ left - n - tot (ss.take j)) (fun _ i => n - (intOf i).toNat)
    case atStart => exact ⟨0, Nat.zero_le _, rfl, by simp [tot], by simp [tot]; omega⟩
    case round =>
      obtain ⟨j, hj, rfl, rfl, hpos⟩ := hrel
      by_cases hjn : j < n
      · obtain ⟨ad, u, rfl, hab, hx, hc⟩ := hR.at_ hjn
        have hk1 : j < ss.length := by have := HL.out; omega
        have hu : u = .string ss[j] := by
          rw [List.getElem?_map, List.getElem?_eq_getElem hk1] at hx; simpa using hx.symm
        subst hu
        have hsz := hs _ (List.getElem_mem hk1)
        have htk : tot (ss.take (j + 1)) = tot (ss.take j) + ss[j].size := by
          rw [List.take_succ_eq_append_getElem hk1, tot_append]; simp [tot]
        have HT := Lib.hid htk
        clear htk hx
        by_cases hneg : left - n - tot (ss.take j) - ss[j].size < 0
        · have HF : Hid (szStrs ss left = -1) := by
            unfold Hid szStrs
            have h2 : tot ss = tot (ss.take (j + 1)) + tot (ss.drop (j + 1)) := by rw [← tot_append, List.take_append_drop]
            have h3 := HT.out
            have h4 := HL.out
            rw [if_pos (by omega)]
          go_wp2
          go_ret
          exact ⟨ret_int HF.out.symm, rfl⟩
        · go_wp2
          go_round
          case rel => exact ⟨j + 1, by omega, by go_num, by rw [HT.out]; congr 1; omega, by rw [HT.out]; omega⟩
          case measure => simp [intOf]; omega
      · have HF : Hid (szStrs ss left = left - n - tot (ss.take j)) := by
          unfold Hid szStrs
          have h4 := HL.out
          rw [List.take_of_length_le (by omega)] at hpos ⊢
          rw [h4, if_neg (by omega)]
        go_wp2
        go_ret
        exact ⟨ret_int HF.out.symm, rfl⟩
set_option maxHeartbeats 400000 in
theorem l_szCard (d f : Int) (B : Nat) (A : Option Addr) (n c : Nat) (ss : List ByteArray) (left : Int) (w : World) (hB : B ≤ w.heap.size) (hR : Reads w B 1 A n (ss.map Value.string)) (hn : n ≤ 9223372036854775807) (hs : ∀ s ∈ ss, s.size ≤ 9223372036854775807) (h0 : -1 ≤ left) (h1 : left ≤ 1048576) :
    Calls Try.prog 180 #[.agg #[.int .i64 d, .int .i64 f, .slice A n c], .int .i64 left] w fun e w' => e = .returned (.int .i64 (szStrs ss left)) ∧ Below w.heap.size w w' := by
  have hr : -1 ≤ szStrs ss left := by unfold szStrs; split <;> omega
  by_cases h : szStrs ss left < 0
  · have HF : Hid (szStrs ss left = -1) := by unfold Hid; omega
    go_enter Try.func180, Try.ntmps180
    go_wp2_with (go_at_call 207; refine (l_szStringS B _ _ _ _ _ _ (hR.alloc hB _) hn hs h0 h1).mono ?_; rintro e w' ⟨rfl, rfl⟩)
    go_ret
    exact ⟨ret_int HF.out.symm, bel⟩
  · go_enter Try.func180, Try.ntmps180
    go_wp2_with (go_at_call 207; refine (l_szStringS B _ _ _ _ _ _ (hR.alloc hB _) hn hs h0 h1).mono ?_; rintro e w' ⟨rfl, rfl⟩)
    go_ret
    exact ⟨rfl, bel⟩

theorem info_str : (Try.prog.info? 9).map (fun i => (i.zero, i.size, i.bytes)) = some (some (.string ByteArray.empty), 1, 16) := by kernel_rfl

/-- a []string of the call's own -/
def FreshStrs (base : Nat) (ss : List ByteArray) (w : World) (e : Ending) (w' : World) : Prop :=
  ∃ A c, e = .returned (.slice A ss.length c) ∧ w'.ownsRow base 9 1 (.slice A ss.length c) ss.length (ss.map Value.string) ∧ Below w.heap.size w w'

set_option maxHeartbeats 400000 in
theorem l_toStringS (B : Nat) (A : Option Addr) (n c : Nat) (ss : List ByteArray) (w : World) (hS : Strs w B A n ss) (hB : B ≤ w.heap.size) :
    Calls Try.prog 208 #[.slice A n c] w (FreshStrs w.heap.size ss w) := by
  have hn := hS.nb
  have hl := hS.len
  have HL := Lib.hid hl
  clear hl
  obtain ⟨i0, hi0, hz0, hz1, hz2⟩ := info_parts info_str
  have hmk := run_make_rowN (P := Try.prog) 24 9 i0 _ Try.underlying24 hi0 hz0 .i64 .i64 n n (Nat.le_refl _) (by rw [hz2]; omega) (by omega) w
  go_enter Try.func208, Try.ntmps208
  go_wp2
  go_loopw [4] (fun i wr => ∃ j : Nat, j ≤ n ∧ i = .int .i64 j ∧ wr.ownsRow w.heap.size 9 1 (.slice (some ⟨w.heap.size, 0, none⟩) n n) n ((ss.take j).map Value.string ++ List.replicate (n - j) (.string ByteArray.empty)) ∧ Below w.heap.size w wr) (fun i _ => n - (intOf i).toNat)
  case atStart =>
    refine ⟨0, Nat.zero_le _, rfl, ?_, bel⟩
    have h := World.ownsRow_lit (w := w) (base := w.heap.size) (e := 9) (size := 1) (madeCells #[Value.string ByteArray.empty] n) n (Nat.le_refl _) (by unfold maxLen; omega) (by simp [madeCells])
    rw [toList_madeCells_one] at h
    simpa using h
  case round =>
    obtain ⟨j, hj, rfl, hown, hb⟩ := hrel
    by_cases hlt : j < n
    · obtain ⟨hk1, ad, rfl, hab, hc, hsb⟩ := hS.at_ hlt
      have hc' : wr.cell? (ad.add j) = some (.string ss[j]) := by rw [hb.cell (by rw [block_of_add]; omega)]; exact hc
      obtain ⟨u1, hc1⟩ := own_cell hown (j := j) hlt
      have hf1 := hown.frozenAt j
      go_wp2
      go_roundw
      case rel =>
        have hst := hown.stored j (.string ss[j])
        refine ⟨j + 1, by omega, by go_num, ?_, only_below_B hb hst.2⟩
        have he : ((ss.take j).map Value.string ++ List.replicate (n - j) (Value.string ByteArray.empty)).set j (Value.string ss[j]) = (ss.take (j + 1)).map Value.string ++ List.replicate (n - (j + 1)) (.string ByteArray.empty) := by
          have hlj : ((ss.take j).map Value.string).length = j := by rw [List.length_map, List.length_take]; omega
          rw [List.set_append, if_neg (by rw [hlj]; omega), hlj, Nat.sub_self, show n - j = (n - (j + 1)) + 1 from by omega, List.replicate_succ, List.set_cons_zero, List.take_succ_eq_append_getElem hk1, List.map_append, List.append_assoc]
          rfl
        rw [← he]; exact hst.1
      case measure => simp [intOf]; omega
    · have hjn : j = n := by omega
      subst hjn
      have hE : (ss.take j).map Value.string ++ List.replicate (j - j) (.string ByteArray.empty) = ss.map Value.string := by
        rw [List.take_of_length_le (by have := HL.out; omega)]; simp
      rw [hE] at hown
      clear hE
      have HO := hide hown
      clear hown
      go_wp2
      go_ret
      have hl := HL.out
      subst hl
      exact ⟨_, _, rfl, unhide HO, hb⟩
/-- a card of the call's own -/
def FreshCard (base : Nat) (d f : Int) (ss : List ByteArray) (w : World) (e : Ending) (w' : World) : Prop :=
  ∃ A c, e = .returned (.agg #[.int .i64 d, .int .i64 f, .slice A ss.length c]) ∧ w'.ownsRow base 9 1 (.slice A ss.length c) ss.length (ss.map Value.string) ∧ Below w.heap.size w w'
set_option maxHeartbeats 400000 in
theorem l_toCard (d f : Int) (B : Nat) (A : Option Addr) (n c : Nat) (ss : List ByteArray) (w : World) (hS : Strs w B A n ss) (hB : B ≤ w.heap.size) :
    Calls Try.prog 182 #[.agg #[.int .i64 d, .int .i64 f, .slice A n c]] w (FreshCard w.heap.size d f ss w) := by
  go_enter Try.func182, Try.ntmps182
  go_wp2_with (go_at_call 208; refine (l_toStringS B _ _ _ _ _ (((hS.alloc hB _).alloc (by simp; omega) _).alloc (by simp; omega) _) (by simp; omega)).mono ?_; rintro e w1 ⟨A1, c1, rfl, ho1, hb1⟩; obtain ⟨hcb, hfb⟩ := bcell hb1)
  refine bodyPost_ret (v := .agg #[.int .i64 d, .int .i64 f, .slice A1 ss.length c1]) (by simp [results, Try.results182, go_sem, hcb]) rfl ?_
  exact ⟨A1, c1, rfl, own_up ho1 upr (by first | exact Nat.le_refl _ | (simp; done) | omega | (simp; omega) | exact (‹_ ∧ _ ∧ Below _ _ _›).2.2.size), bel⟩
end Go.Proofs.Yteffbjddgdjkmaa
