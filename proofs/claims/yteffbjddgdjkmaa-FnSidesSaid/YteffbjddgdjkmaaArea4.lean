/- The contracts of areAlike, RepairCost, CardDistance, SideDistance of both packages. -/
import Derived.Test.YteffbjddgdjkmaaArea3
import Derived.Test.YteffbjddgdjkmaaLawKit
namespace Go.Proofs.Yteffbjddgdjkmaa
open Go.ChangeShapes Go.WideShapes Go.ChangeAt Go.RowKit
set_option linter.unusedVariables false
set_option maxRecDepth 10000

def alike (d f d2 f2 : Int) (ss ts : List ByteArray) : Bool := cardOk d f ss && (cardOk d2 f2 ts && ((d == d2) && ((f == f2) && ((ss.length : Int) == (ts.length : Int)))))
def costL : List ByteArray → List ByteArray → Int
  | a :: l, b :: m => areaOf a.data.toList b.data.toList + costL l m
  | _, _ => 0
theorem costL_take (a b : List ByteArray) (k : Nat) (ha : k < a.length) (hb : k < b.length) : costL (a.take (k + 1)) (b.take (k + 1)) = costL (a.take k) (b.take k) + areaOf a[k].data.toList b[k].data.toList := by
  induction k generalizing a b with
  | zero =>
    match a, b, ha, hb with
    | x :: l, y :: m, _, _ => simp [costL]
  | succ k ih =>
    match a, b, ha, hb with
    | x :: l, y :: m, ha, hb =>
      simp only [List.take_succ_cons, costL, List.getElem_cons_succ]
      rw [ih l m (by simpa using ha) (by simpa using hb)]; omega
theorem costL_bd (a b : List ByteArray) : -(a.length : Int) ≤ costL a b ∧ costL a b ≤ 256 * a.length := by
  induction a generalizing b with
  | nil => simp [costL]
  | cons x l ih =>
    cases b with
    | nil => simp only [costL, List.length_cons]; omega
    | cons y m =>
      have h1 := ih m
      have h2 := areaOf_bd x.data.toList y.data.toList
      simp only [costL, List.length_cons]
      omega
theorem keep_two {a W : World} {p q : Addr} {u v : Value} (hp : a.cell? p = some u) (hpb : p.block < a.heap.size) (hq : a.cell? q = some v) (hqb : q.block < a.heap.size) (h : Below a.heap.size a W) :
    (∀ b o, b < a.heap.size → W.cell? ⟨b, o, none⟩ = a.cell? ⟨b, o, none⟩) ∧ W.cell? p = some u ∧ W.cell? q = some v ∧ Below a.heap.size a W :=
  ⟨fun b o hb => h.cell (p := ⟨b, o, none⟩) hb, (h.cell hpb).trans hp, (h.cell hqb).trans hq, h⟩
def costOf (d f d2 f2 : Int) (ss ts : List ByteArray) : Int := if alike d f d2 f2 ss ts = true then costL ss ts else -1
theorem costOf_bd (d f d2 f2 : Int) (ss ts : List ByteArray) (h : ss.length ≤ 16777216) : -16777216 ≤ costOf d f d2 f2 ss ts ∧ costOf d f d2 f2 ss ts ≤ 4294967296 := by
  unfold costOf; split
  · have := costL_bd ss ts; omega
  · omega
def sideOf (d f d2 f2 : Int) (ss ts : List ByteArray) : Int :=
  if costOf d f d2 f2 ss ts < 0 then -1 else min (costOf d f d2 f2 ss ts) (costOf d f (mirrorRes d2 f2 ts).1 (mirrorRes d2 f2 ts).2.1 ss (mirrorRes d2 f2 ts).2.2)
theorem mirror_ok (d f : Int) (ss : List ByteArray) (m : Nat) (hl : ss.length ≤ m) (hs : ∀ x ∈ ss, x.size ≤ 16777216) : (mirrorRes d f ss).2.2.length ≤ m ∧ ∀ x ∈ (mirrorRes d f ss).2.2, x.size ≤ 16777216 := by
  unfold mirrorRes; split
  · exact ⟨by show ss.reverse.length ≤ m; rw [List.length_reverse]; exact hl, fun x hx => hs x (by simpa using hx)⟩
  · exact ⟨by simp, fun x hx => by simp at hx⟩

set_option maxHeartbeats 1600000 in
theorem i_areAlike (d f d2 f2 : Int) (B : Nat) (A A2 : Option Addr) (n c n2 c2 : Nat) (ss ts : List ByteArray) (w : World) (hS : Strs w B A n ss) (hT : Strs w B A2 n2 ts) (hB : B ≤ w.heap.size) :
    Calls Try.prog 108 #[.agg #[.int .i64 d, .int .i64 f, .slice A n c], .agg #[.int .i64 d2, .int .i64 f2, .slice A2 n2 c2]] w fun e w' => e = .returned (.bool (alike d f d2 f2 ss ts)) ∧ Below w.heap.size w w' := by
  have hn := hS.nb
  have hn2 := hT.nb
  have hl := hS.len
  have hl2 := hT.len
  have hS2 := (hS.alloc hB (.cells #[.int .i64 d, .int .i64 f, .slice A n c] 26)).alloc (by simp; omega) (.cells #[.int .i64 d2, .int .i64 f2, .slice A2 n2 c2] 26)
  have hT2 := (hT.alloc hB (.cells #[.int .i64 d, .int .i64 f, .slice A n c] 26)).alloc (by simp; omega) (.cells #[.int .i64 d2, .int .i64 f2, .slice A2 n2 c2] 26)
  have HL := Lib.hid hl
  have HL2 := Lib.hid hl2
  clear hl hl2
  cases h1 : cardOk d f ss
  · have HP := Lib.hid (show alike d f d2 f2 ss ts = false by unfold alike; rw [h1]; rfl)
    go_enter Try.func108, Try.ntmps108
    go_wp2_with (first | (go_at_call_of 80 (Value.agg #[.int .i64 d, .int .i64 f, .slice A n c]); refine (i_CardOk _ _ _ _ _ ss _ (hS2.more (by simp; omega))).mono ?_; rw [h1]; rintro e w1 ⟨rfl, hb1⟩; obtain ⟨hcb, hfb⟩ := bcell hb1; have hz_w1_0 : w.heap.size < w1.heap.size := (by have hzz := hb1.size; (try simp at hzz); omega); have hy_w1_0 := Nat.le_of_lt hz_w1_0; have hz_w1_1 : w.heap.size + 1 < w1.heap.size := (by have hzz := hb1.size; (try simp at hzz); omega); have hy_w1_1 := Nat.le_of_lt hz_w1_1; have hT3 := hT2.below (hb1.mono (by simp; omega))))
    go_ret
    exact ⟨ret_bool HP.out.symm, bel⟩
  · cases h2 : cardOk d2 f2 ts
    · have HP := Lib.hid (show alike d f d2 f2 ss ts = false by unfold alike; rw [h1, h2]; rfl)
      go_enter Try.func108, Try.ntmps108
      go_wp2_with (first | (go_at_call_of 80 (Value.agg #[.int .i64 d, .int .i64 f, .slice A n c]); refine (i_CardOk _ _ _ _ _ ss _ (hS2.more (by simp; omega))).mono ?_; rw [h1]; rintro e w1 ⟨rfl, hb1⟩; obtain ⟨hcb, hfb⟩ := bcell hb1; have hz_w1_0 : w.heap.size < w1.heap.size := (by have hzz := hb1.size; (try simp at hzz); omega); have hy_w1_0 := Nat.le_of_lt hz_w1_0; have hz_w1_1 : w.heap.size + 1 < w1.heap.size := (by have hzz := hb1.size; (try simp at hzz); omega); have hy_w1_1 := Nat.le_of_lt hz_w1_1; have hT3 := hT2.below (hb1.mono (by simp; omega))) | (go_at_call_of 80 (Value.agg #[.int .i64 d2, .int .i64 f2, .slice A2 n2 c2]); refine (i_CardOk _ _ _ _ _ ts _ (hT3.more (by omega))).mono ?_; rw [h2]; rintro e w2 ⟨rfl, hb2⟩; obtain ⟨hcb2, hfb2⟩ := bcell hb2; (have hzw : w1.heap.size ≤ w2.heap.size := hb2.size); have hzx0 : w.heap.size < w2.heap.size := (by omega); have hzx1 : w.heap.size + 1 < w2.heap.size := (by omega)))
      go_ret
      exact ⟨ret_bool HP.out.symm, bel⟩
    · cases h3 : (d == d2)
      · have HP := Lib.hid (show alike d f d2 f2 ss ts = false by unfold alike; rw [h1, h2, h3]; rfl)
        go_enter Try.func108, Try.ntmps108
        go_wp2_with (first | (go_at_call_of 80 (Value.agg #[.int .i64 d, .int .i64 f, .slice A n c]); refine (i_CardOk _ _ _ _ _ ss _ (hS2.more (by simp; omega))).mono ?_; rw [h1]; rintro e w1 ⟨rfl, hb1⟩; obtain ⟨hcb, hfb⟩ := bcell hb1; have hz_w1_0 : w.heap.size < w1.heap.size := (by have hzz := hb1.size; (try simp at hzz); omega); have hy_w1_0 := Nat.le_of_lt hz_w1_0; have hz_w1_1 : w.heap.size + 1 < w1.heap.size := (by have hzz := hb1.size; (try simp at hzz); omega); have hy_w1_1 := Nat.le_of_lt hz_w1_1; have hT3 := hT2.below (hb1.mono (by simp; omega))) | (go_at_call_of 80 (Value.agg #[.int .i64 d2, .int .i64 f2, .slice A2 n2 c2]); refine (i_CardOk _ _ _ _ _ ts _ (hT3.more (by omega))).mono ?_; rw [h2]; rintro e w2 ⟨rfl, hb2⟩; obtain ⟨hcb2, hfb2⟩ := bcell hb2; (have hzw : w1.heap.size ≤ w2.heap.size := hb2.size); have hzx0 : w.heap.size < w2.heap.size := (by omega); have hzx1 : w.heap.size + 1 < w2.heap.size := (by omega)))
        go_ret
        exact ⟨ret_bool HP.out.symm, bel⟩
      · cases h4 : (f == f2)
        · have HP := Lib.hid (show alike d f d2 f2 ss ts = false by unfold alike; rw [h1, h2, h3, h4]; rfl)
          go_enter Try.func108, Try.ntmps108
          go_wp2_with (first | (go_at_call_of 80 (Value.agg #[.int .i64 d, .int .i64 f, .slice A n c]); refine (i_CardOk _ _ _ _ _ ss _ (hS2.more (by simp; omega))).mono ?_; rw [h1]; rintro e w1 ⟨rfl, hb1⟩; obtain ⟨hcb, hfb⟩ := bcell hb1; have hz_w1_0 : w.heap.size < w1.heap.size := (by have hzz := hb1.size; (try simp at hzz); omega); have hy_w1_0 := Nat.le_of_lt hz_w1_0; have hz_w1_1 : w.heap.size + 1 < w1.heap.size := (by have hzz := hb1.size; (try simp at hzz); omega); have hy_w1_1 := Nat.le_of_lt hz_w1_1; have hT3 := hT2.below (hb1.mono (by simp; omega))) | (go_at_call_of 80 (Value.agg #[.int .i64 d2, .int .i64 f2, .slice A2 n2 c2]); refine (i_CardOk _ _ _ _ _ ts _ (hT3.more (by omega))).mono ?_; rw [h2]; rintro e w2 ⟨rfl, hb2⟩; obtain ⟨hcb2, hfb2⟩ := bcell hb2; (have hzw : w1.heap.size ≤ w2.heap.size := hb2.size); have hzx0 : w.heap.size < w2.heap.size := (by omega); have hzx1 : w.heap.size + 1 < w2.heap.size := (by omega)))
          go_ret
          exact ⟨ret_bool HP.out.symm, bel⟩
        · cases h5 : ((n : Int) == (n2 : Int))
          · have HP := Lib.hid (show alike d f d2 f2 ss ts = false by unfold alike; rw [h1, h2, h3, h4, HL.out, HL2.out, h5]; rfl)
            go_enter Try.func108, Try.ntmps108
            go_wp2_with (first | (go_at_call_of 80 (Value.agg #[.int .i64 d, .int .i64 f, .slice A n c]); refine (i_CardOk _ _ _ _ _ ss _ (hS2.more (by simp; omega))).mono ?_; rw [h1]; rintro e w1 ⟨rfl, hb1⟩; obtain ⟨hcb, hfb⟩ := bcell hb1; have hz_w1_0 : w.heap.size < w1.heap.size := (by have hzz := hb1.size; (try simp at hzz); omega); have hy_w1_0 := Nat.le_of_lt hz_w1_0; have hz_w1_1 : w.heap.size + 1 < w1.heap.size := (by have hzz := hb1.size; (try simp at hzz); omega); have hy_w1_1 := Nat.le_of_lt hz_w1_1; have hT3 := hT2.below (hb1.mono (by simp; omega))) | (go_at_call_of 80 (Value.agg #[.int .i64 d2, .int .i64 f2, .slice A2 n2 c2]); refine (i_CardOk _ _ _ _ _ ts _ (hT3.more (by omega))).mono ?_; rw [h2]; rintro e w2 ⟨rfl, hb2⟩; obtain ⟨hcb2, hfb2⟩ := bcell hb2; (have hzw : w1.heap.size ≤ w2.heap.size := hb2.size); have hzx0 : w.heap.size < w2.heap.size := (by omega); have hzx1 : w.heap.size + 1 < w2.heap.size := (by omega)))
            go_ret
            exact ⟨ret_bool HP.out.symm, bel⟩
          · have HP := Lib.hid (show alike d f d2 f2 ss ts = true by unfold alike; rw [h1, h2, h3, h4, HL.out, HL2.out, h5]; rfl)
            go_enter Try.func108, Try.ntmps108
            go_wp2_with (first | (go_at_call_of 80 (Value.agg #[.int .i64 d, .int .i64 f, .slice A n c]); refine (i_CardOk _ _ _ _ _ ss _ (hS2.more (by simp; omega))).mono ?_; rw [h1]; rintro e w1 ⟨rfl, hb1⟩; obtain ⟨hcb, hfb⟩ := bcell hb1; have hz_w1_0 : w.heap.size < w1.heap.size := (by have hzz := hb1.size; (try simp at hzz); omega); have hy_w1_0 := Nat.le_of_lt hz_w1_0; have hz_w1_1 : w.heap.size + 1 < w1.heap.size := (by have hzz := hb1.size; (try simp at hzz); omega); have hy_w1_1 := Nat.le_of_lt hz_w1_1; have hT3 := hT2.below (hb1.mono (by simp; omega))) | (go_at_call_of 80 (Value.agg #[.int .i64 d2, .int .i64 f2, .slice A2 n2 c2]); refine (i_CardOk _ _ _ _ _ ts _ (hT3.more (by omega))).mono ?_; rw [h2]; rintro e w2 ⟨rfl, hb2⟩; obtain ⟨hcb2, hfb2⟩ := bcell hb2; (have hzw : w1.heap.size ≤ w2.heap.size := hb2.size); have hzx0 : w.heap.size < w2.heap.size := (by omega); have hzx1 : w.heap.size + 1 < w2.heap.size := (by omega)))
            go_ret
            exact ⟨ret_bool HP.out.symm, bel⟩
set_option maxHeartbeats 1600000 in
theorem s_l08Same (d f d2 f2 : Int) (B : Nat) (A A2 : Option Addr) (n c n2 c2 : Nat) (ss ts : List ByteArray) (w : World) (hS : Strs w B A n ss) (hT : Strs w B A2 n2 ts) (hB : B ≤ w.heap.size) :
    Calls Try.prog 155 #[.agg #[.int .i64 d, .int .i64 f, .slice A n c], .agg #[.int .i64 d2, .int .i64 f2, .slice A2 n2 c2]] w fun e w' => e = .returned (.bool (alike d f d2 f2 ss ts)) ∧ Below w.heap.size w w' := by
  have hn := hS.nb
  have hn2 := hT.nb
  have hl := hS.len
  have hl2 := hT.len
  have hS2 := (hS.alloc hB (.cells #[.int .i64 d, .int .i64 f, .slice A n c] 26)).alloc (by simp; omega) (.cells #[.int .i64 d2, .int .i64 f2, .slice A2 n2 c2] 26)
  have hT2 := (hT.alloc hB (.cells #[.int .i64 d, .int .i64 f, .slice A n c] 26)).alloc (by simp; omega) (.cells #[.int .i64 d2, .int .i64 f2, .slice A2 n2 c2] 26)
  have HL := Lib.hid hl
  have HL2 := Lib.hid hl2
  clear hl hl2
  cases h1 : cardOk d f ss
  · have HP := Lib.hid (show alike d f d2 f2 ss ts = false by unfold alike; rw [h1]; rfl)
    go_enter Try.func155, Try.ntmps155
    go_wp2_with (first | (go_at_call_of 90 (Value.agg #[.int .i64 d, .int .i64 f, .slice A n c]); refine (s_CardOk _ _ _ _ _ ss _ (hS2.more (by simp; omega))).mono ?_; rw [h1]; rintro e w1 ⟨rfl, hb1⟩; obtain ⟨hcb, hfb⟩ := bcell hb1; have hz_w1_0 : w.heap.size < w1.heap.size := (by have hzz := hb1.size; (try simp at hzz); omega); have hy_w1_0 := Nat.le_of_lt hz_w1_0; have hz_w1_1 : w.heap.size + 1 < w1.heap.size := (by have hzz := hb1.size; (try simp at hzz); omega); have hy_w1_1 := Nat.le_of_lt hz_w1_1; have hT3 := hT2.below (hb1.mono (by simp; omega))))
    go_ret
    exact ⟨ret_bool HP.out.symm, bel⟩
  · cases h2 : cardOk d2 f2 ts
    · have HP := Lib.hid (show alike d f d2 f2 ss ts = false by unfold alike; rw [h1, h2]; rfl)
      go_enter Try.func155, Try.ntmps155
      go_wp2_with (first | (go_at_call_of 90 (Value.agg #[.int .i64 d, .int .i64 f, .slice A n c]); refine (s_CardOk _ _ _ _ _ ss _ (hS2.more (by simp; omega))).mono ?_; rw [h1]; rintro e w1 ⟨rfl, hb1⟩; obtain ⟨hcb, hfb⟩ := bcell hb1; have hz_w1_0 : w.heap.size < w1.heap.size := (by have hzz := hb1.size; (try simp at hzz); omega); have hy_w1_0 := Nat.le_of_lt hz_w1_0; have hz_w1_1 : w.heap.size + 1 < w1.heap.size := (by have hzz := hb1.size; (try simp at hzz); omega); have hy_w1_1 := Nat.le_of_lt hz_w1_1; have hT3 := hT2.below (hb1.mono (by simp; omega))) | (go_at_call_of 90 (Value.agg #[.int .i64 d2, .int .i64 f2, .slice A2 n2 c2]); refine (s_CardOk _ _ _ _ _ ts _ (hT3.more (by omega))).mono ?_; rw [h2]; rintro e w2 ⟨rfl, hb2⟩; obtain ⟨hcb2, hfb2⟩ := bcell hb2; (have hzw : w1.heap.size ≤ w2.heap.size := hb2.size); have hzx0 : w.heap.size < w2.heap.size := (by omega); have hzx1 : w.heap.size + 1 < w2.heap.size := (by omega)))
      go_ret
      exact ⟨ret_bool HP.out.symm, bel⟩
    · cases h3 : (d == d2)
      · have HP := Lib.hid (show alike d f d2 f2 ss ts = false by unfold alike; rw [h1, h2, h3]; rfl)
        go_enter Try.func155, Try.ntmps155
        go_wp2_with (first | (go_at_call_of 90 (Value.agg #[.int .i64 d, .int .i64 f, .slice A n c]); refine (s_CardOk _ _ _ _ _ ss _ (hS2.more (by simp; omega))).mono ?_; rw [h1]; rintro e w1 ⟨rfl, hb1⟩; obtain ⟨hcb, hfb⟩ := bcell hb1; have hz_w1_0 : w.heap.size < w1.heap.size := (by have hzz := hb1.size; (try simp at hzz); omega); have hy_w1_0 := Nat.le_of_lt hz_w1_0; have hz_w1_1 : w.heap.size + 1 < w1.heap.size := (by have hzz := hb1.size; (try simp at hzz); omega); have hy_w1_1 := Nat.le_of_lt hz_w1_1; have hT3 := hT2.below (hb1.mono (by simp; omega))) | (go_at_call_of 90 (Value.agg #[.int .i64 d2, .int .i64 f2, .slice A2 n2 c2]); refine (s_CardOk _ _ _ _ _ ts _ (hT3.more (by omega))).mono ?_; rw [h2]; rintro e w2 ⟨rfl, hb2⟩; obtain ⟨hcb2, hfb2⟩ := bcell hb2; (have hzw : w1.heap.size ≤ w2.heap.size := hb2.size); have hzx0 : w.heap.size < w2.heap.size := (by omega); have hzx1 : w.heap.size + 1 < w2.heap.size := (by omega)))
        go_ret
        exact ⟨ret_bool HP.out.symm, bel⟩
      · cases h4 : (f == f2)
        · have HP := Lib.hid (show alike d f d2 f2 ss ts = false by unfold alike; rw [h1, h2, h3, h4]; rfl)
          go_enter Try.func155, Try.ntmps155
          go_wp2_with (first | (go_at_call_of 90 (Value.agg #[.int .i64 d, .int .i64 f, .slice A n c]); refine (s_CardOk _ _ _ _ _ ss _ (hS2.more (by simp; omega))).mono ?_; rw [h1]; rintro e w1 ⟨rfl, hb1⟩; obtain ⟨hcb, hfb⟩ := bcell hb1; have hz_w1_0 : w.heap.size < w1.heap.size := (by have hzz := hb1.size; (try simp at hzz); omega); have hy_w1_0 := Nat.le_of_lt hz_w1_0; have hz_w1_1 : w.heap.size + 1 < w1.heap.size := (by have hzz := hb1.size; (try simp at hzz); omega); have hy_w1_1 := Nat.le_of_lt hz_w1_1; have hT3 := hT2.below (hb1.mono (by simp; omega))) | (go_at_call_of 90 (Value.agg #[.int .i64 d2, .int .i64 f2, .slice A2 n2 c2]); refine (s_CardOk _ _ _ _ _ ts _ (hT3.more (by omega))).mono ?_; rw [h2]; rintro e w2 ⟨rfl, hb2⟩; obtain ⟨hcb2, hfb2⟩ := bcell hb2; (have hzw : w1.heap.size ≤ w2.heap.size := hb2.size); have hzx0 : w.heap.size < w2.heap.size := (by omega); have hzx1 : w.heap.size + 1 < w2.heap.size := (by omega)))
          go_ret
          exact ⟨ret_bool HP.out.symm, bel⟩
        · cases h5 : ((n : Int) == (n2 : Int))
          · have HP := Lib.hid (show alike d f d2 f2 ss ts = false by unfold alike; rw [h1, h2, h3, h4, HL.out, HL2.out, h5]; rfl)
            go_enter Try.func155, Try.ntmps155
            go_wp2_with (first | (go_at_call_of 90 (Value.agg #[.int .i64 d, .int .i64 f, .slice A n c]); refine (s_CardOk _ _ _ _ _ ss _ (hS2.more (by simp; omega))).mono ?_; rw [h1]; rintro e w1 ⟨rfl, hb1⟩; obtain ⟨hcb, hfb⟩ := bcell hb1; have hz_w1_0 : w.heap.size < w1.heap.size := (by have hzz := hb1.size; (try simp at hzz); omega); have hy_w1_0 := Nat.le_of_lt hz_w1_0; have hz_w1_1 : w.heap.size + 1 < w1.heap.size := (by have hzz := hb1.size; (try simp at hzz); omega); have hy_w1_1 := Nat.le_of_lt hz_w1_1; have hT3 := hT2.below (hb1.mono (by simp; omega))) | (go_at_call_of 90 (Value.agg #[.int .i64 d2, .int .i64 f2, .slice A2 n2 c2]); refine (s_CardOk _ _ _ _ _ ts _ (hT3.more (by omega))).mono ?_; rw [h2]; rintro e w2 ⟨rfl, hb2⟩; obtain ⟨hcb2, hfb2⟩ := bcell hb2; (have hzw : w1.heap.size ≤ w2.heap.size := hb2.size); have hzx0 : w.heap.size < w2.heap.size := (by omega); have hzx1 : w.heap.size + 1 < w2.heap.size := (by omega)))
            go_ret
            exact ⟨ret_bool HP.out.symm, bel⟩
          · have HP := Lib.hid (show alike d f d2 f2 ss ts = true by unfold alike; rw [h1, h2, h3, h4, HL.out, HL2.out, h5]; rfl)
            go_enter Try.func155, Try.ntmps155
            go_wp2_with (first | (go_at_call_of 90 (Value.agg #[.int .i64 d, .int .i64 f, .slice A n c]); refine (s_CardOk _ _ _ _ _ ss _ (hS2.more (by simp; omega))).mono ?_; rw [h1]; rintro e w1 ⟨rfl, hb1⟩; obtain ⟨hcb, hfb⟩ := bcell hb1; have hz_w1_0 : w.heap.size < w1.heap.size := (by have hzz := hb1.size; (try simp at hzz); omega); have hy_w1_0 := Nat.le_of_lt hz_w1_0; have hz_w1_1 : w.heap.size + 1 < w1.heap.size := (by have hzz := hb1.size; (try simp at hzz); omega); have hy_w1_1 := Nat.le_of_lt hz_w1_1; have hT3 := hT2.below (hb1.mono (by simp; omega))) | (go_at_call_of 90 (Value.agg #[.int .i64 d2, .int .i64 f2, .slice A2 n2 c2]); refine (s_CardOk _ _ _ _ _ ts _ (hT3.more (by omega))).mono ?_; rw [h2]; rintro e w2 ⟨rfl, hb2⟩; obtain ⟨hcb2, hfb2⟩ := bcell hb2; (have hzw : w1.heap.size ≤ w2.heap.size := hb2.size); have hzx0 : w.heap.size < w2.heap.size := (by omega); have hzx1 : w.heap.size + 1 < w2.heap.size := (by omega)))
            go_ret
            exact ⟨ret_bool HP.out.symm, bel⟩
theorem alike_len {d f d2 f2 : Int} {ss ts : List ByteArray} (h : alike d f d2 f2 ss ts = true) : ss.length = ts.length := by
  unfold alike at h
  simp only [Bool.and_eq_true, beq_iff_eq] at h
  omega
theorem cost_no {d f d2 f2 : Int} {ss ts : List ByteArray} (h : alike d f d2 f2 ss ts = false) : costOf d f d2 f2 ss ts = -1 := by unfold costOf; rw [if_neg (by rw [h]; simp)]
theorem cost_yes {d f d2 f2 : Int} {ss ts : List ByteArray} (h : alike d f d2 f2 ss ts = true) : costOf d f d2 f2 ss ts = costL ss ts := by unfold costOf; rw [if_pos h]
set_option maxHeartbeats 1600000 in
theorem i_RepairCost (d f d2 f2 : Int) (B : Nat) (A A2 : Option Addr) (n c n2 c2 : Nat) (ss ts : List ByteArray) (w : World) (hS : Strs w B A n ss) (hT : Strs w B A2 n2 ts) (hB : B ≤ w.heap.size) :
    Calls Try.prog 107 #[.agg #[.int .i64 d, .int .i64 f, .slice A n c], .agg #[.int .i64 d2, .int .i64 f2, .slice A2 n2 c2]] w fun e w' => e = .returned (.int .i64 (costOf d f d2 f2 ss ts)) ∧ Below w.heap.size w w' := by
  have hn := hS.nb
  have hn2 := hT.nb
  have hl := hS.len
  have hl2 := hT.len
  have hS2 := (hS.alloc hB (.cells #[.int .i64 d, .int .i64 f, .slice A n c] 26)).alloc (by simp; omega) (.cells #[.int .i64 d2, .int .i64 f2, .slice A2 n2 c2] 26)
  have hT2 := (hT.alloc hB (.cells #[.int .i64 d, .int .i64 f, .slice A n c] 26)).alloc (by simp; omega) (.cells #[.int .i64 d2, .int .i64 f2, .slice A2 n2 c2] 26)
  cases ha : alike d f d2 f2 ss ts
  · have HP := Lib.hid (cost_no ha)
    clear hl hl2
    go_enter Try.func107, Try.ntmps107
    go_wp2_with (first | (go_at_call 108; refine (i_areAlike _ _ _ _ B _ _ _ _ _ _ ss ts _ hS2 hT2 (by simp; omega)).mono ?_; rw [ha]; rintro e w1 ⟨rfl, hb1⟩; obtain ⟨hcb, hfb⟩ := bcell hb1; have hz_w1_0 : w.heap.size < w1.heap.size := (by have hzz := hb1.size; (try simp at hzz); omega); have hy_w1_0 := Nat.le_of_lt hz_w1_0; have hz_w1_1 : w.heap.size + 1 < w1.heap.size := (by have hzz := hb1.size; (try simp at hzz); omega); have hy_w1_1 := Nat.le_of_lt hz_w1_1))
    go_ret
    exact ⟨ret_int HP.out.symm, bel⟩
  · have HP := Lib.hid (cost_yes ha)
    have hnn : n = n2 := by rw [← hl, ← hl2]; exact alike_len ha
    subst hnn
    have HL := Lib.hid hl
    have HL2 := Lib.hid hl2
    clear hl hl2
    go_enter Try.func107, Try.ntmps107
    go_wp2_with (first | (go_at_call 108; refine (i_areAlike _ _ _ _ B _ _ _ _ _ _ ss ts _ hS2 hT2 (by simp; omega)).mono ?_; rw [ha]; rintro e w1 ⟨rfl, hb1⟩; obtain ⟨hcb, hfb⟩ := bcell hb1; have hz_w1_0 : w.heap.size < w1.heap.size := (by have hzz := hb1.size; (try simp at hzz); omega); have hy_w1_0 := Nat.le_of_lt hz_w1_0; have hz_w1_1 : w.heap.size + 1 < w1.heap.size := (by have hzz := hb1.size; (try simp at hzz); omega); have hy_w1_1 := Nat.le_of_lt hz_w1_1))
    have hS3 := hS2.below (hb1.mono (by simp; omega))
    have hT3 := hT2.below (hb1.mono (by simp; omega))
    have hbw : Below w.heap.size w w1 := bel
    have hk1 : w1.heap[w.heap.size]? = some (.cells #[.int .i64 d, .int .i64 f, .slice A n c] 26) := blk_below (box_first w (.cells #[.int .i64 d, .int .i64 f, .slice A n c] 26) (.cells #[.int .i64 d2, .int .i64 f2, .slice A2 n c2] 26)) hb1 (by first | (simp; done) | (simp; omega))
    have hk2 : w1.heap[w.heap.size + 1]? = some (.cells #[.int .i64 d2, .int .i64 f2, .slice A2 n c2] 26) := blk_below (box_second w (.cells #[.int .i64 d, .int .i64 f, .slice A n c] 26) (.cells #[.int .i64 d2, .int .i64 f2, .slice A2 n c2] 26)) hb1 (by first | (simp; done) | (simp; omega))
    have hz1 : w.heap.size + 1 < w1.heap.size := by omega
    go_loopw [5, 15] (fun q i wr => ∃ k : Nat, k ≤ n ∧ i = .int .i64 k ∧ q = .int .i64 (costL (ss.take k) (ts.take k)) ∧ Below w1.heap.size w1 wr) (fun _ i _ => n - (intOf i).toNat)
    case atStart => exact ⟨0, Nat.zero_le _, rfl, by simp [costL], Below.refl _ _⟩
    case round =>
      obtain ⟨k, hk, rfl, rfl, hb⟩ := hrel
      have hzr := hb.size
      obtain ⟨hx0, hx1, hx2, hxl⟩ := blk3 (blk_below hk1 hb (by omega))
      obtain ⟨hy0, hy1, hy2, hyl⟩ := blk3 (blk_below hk2 hb (by omega))
      have hSr := hS3.below (hb.mono (by omega))
      have hTr := hT3.below (hb.mono (by omega))
      clear hcb hfb
      by_cases hlt : k < n
      · obtain ⟨hks, ad, rfl, hab, hc1, hsz⟩ := hSr.at_ hlt
        obtain ⟨hkt, ad2, rfl, hab2, hc2, hsz2⟩ := hTr.at_ hlt
        have HS := Lib.hid (costL_take ss ts k hks hkt)
        have hbd := costL_bd (ss.take k) (ts.take k)
        have htl : (ss.take k).length ≤ k := List.length_take_le _ _
        have hbd2 := areaOf_bd ss[k].data.toList ts[k].data.toList
        obtain ⟨hbda, hbdb⟩ := hbd
        obtain ⟨hbdc, hbdd⟩ := hbd2
        have hw3 : IntKind.i64.wrap (costL (ss.take k) (ts.take k) + areaOf ss[k].data.toList ts[k].data.toList) = costL (ss.take k) (ts.take k) + areaOf ss[k].data.toList ts[k].data.toList := IntWalk.i64_in _ (by omega)
        go_wp2_with (first | (go_at_call 110; refine (i_AreaBetween _ _ _ hsz hsz2).mono ?_; rintro e w3 ⟨rfl, hb3⟩; obtain ⟨hcb3, hfb3⟩ := bcell hb3))
        go_roundw
        case rel => exact ⟨k + 1, by omega, by go_num, by rw [HS.out], bel⟩
        case measure => simp [intOf]; omega
      · have hke : k = n := by omega
        have ta : ss.take k = ss := List.take_of_length_le (by have := HL.out; omega)
        have tb : ts.take k = ts := List.take_of_length_le (by have := HL2.out; omega)
        rw [ta, tb]
        clear ta tb
        subst hke
        go_wp2
        go_ret
        exact ⟨ret_int HP.out.symm, bel⟩
set_option maxHeartbeats 800000 in
theorem i_CardDistance (d f d2 f2 : Int) (B : Nat) (A A2 : Option Addr) (n c n2 c2 : Nat) (ss ts : List ByteArray) (w : World) (hS : Strs w B A n ss) (hT : Strs w B A2 n2 ts) (hB : B ≤ w.heap.size) :
    Calls Try.prog 40 #[.agg #[.int .i64 d, .int .i64 f, .slice A n c], .agg #[.int .i64 d2, .int .i64 f2, .slice A2 n2 c2]] w fun e w' => e = .returned (.int .i64 (costOf d f d2 f2 ss ts)) ∧ Below w.heap.size w w' := by
  have hn := hS.nb
  have hn2 := hT.nb
  have hl := hS.len
  have hl2 := hT.len
  have hS2 := (hS.alloc hB (.cells #[.int .i64 d, .int .i64 f, .slice A n c] 26)).alloc (by simp; omega) (.cells #[.int .i64 d2, .int .i64 f2, .slice A2 n2 c2] 26)
  have hT2 := (hT.alloc hB (.cells #[.int .i64 d, .int .i64 f, .slice A n c] 26)).alloc (by simp; omega) (.cells #[.int .i64 d2, .int .i64 f2, .slice A2 n2 c2] 26)
  clear hl hl2
  go_enter Try.func40, Try.ntmps40
  go_wp2_with (first | (go_at_call 107; refine (i_RepairCost _ _ _ _ B _ _ _ _ _ _ ss ts _ hS2 hT2 (by simp; omega)).mono ?_; rintro e w1 ⟨rfl, hb1⟩))
  go_ret
  exact ⟨rfl, bel⟩
set_option maxHeartbeats 1600000 in
theorem i_SideDistance (d f d2 f2 : Int) (B : Nat) (A A2 : Option Addr) (n c n2 c2 : Nat) (ss ts : List ByteArray) (w : World) (hS : Strs w B A n ss) (hT : Strs w B A2 n2 ts) (hB : B ≤ w.heap.size) :
    Calls Try.prog 42 #[.agg #[.int .i64 d, .int .i64 f, .slice A n c], .agg #[.int .i64 d2, .int .i64 f2, .slice A2 n2 c2]] w fun e w' => e = .returned (.int .i64 (sideOf d f d2 f2 ss ts)) ∧ Below w.heap.size w w' := by
  have hn := hS.nb
  have hn2 := hT.nb
  have hl := hS.len
  have hl2 := hT.len
  have hS2 := (hS.alloc hB (.cells #[.int .i64 d, .int .i64 f, .slice A n c] 26)).alloc (by simp; omega) (.cells #[.int .i64 d2, .int .i64 f2, .slice A2 n2 c2] 26)
  have hT2 := (hT.alloc hB (.cells #[.int .i64 d, .int .i64 f, .slice A n c] 26)).alloc (by simp; omega) (.cells #[.int .i64 d2, .int .i64 f2, .slice A2 n2 c2] 26)
  have hbd := costOf_bd d f d2 f2 ss ts (by omega)
  obtain ⟨hbda, hbdb⟩ := hbd
  by_cases hneg : costOf d f d2 f2 ss ts < 0
  · have HP := Lib.hid (show sideOf d f d2 f2 ss ts = -1 by unfold sideOf; rw [if_pos hneg])
    clear hl hl2
    go_enter Try.func42, Try.ntmps42
    go_wp2_with (first | (go_at_call 40; refine (i_CardDistance _ _ _ _ B _ _ _ _ _ _ ss ts _ hS2 hT2 (by simp; omega)).mono ?_; rintro e w1 ⟨rfl, hb1⟩; obtain ⟨hcb, hfb⟩ := bcell hb1; have hz_w1_0 : w.heap.size < w1.heap.size := (by have hzz := hb1.size; (try simp at hzz); omega); have hy_w1_0 := Nat.le_of_lt hz_w1_0; have hz_w1_1 : w.heap.size + 1 < w1.heap.size := (by have hzz := hb1.size; (try simp at hzz); omega); have hy_w1_1 := Nat.le_of_lt hz_w1_1))
    go_ret
    exact ⟨ret_int HP.out.symm, bel⟩
  · have HP := Lib.hid (show sideOf d f d2 f2 ss ts = min (costOf d f d2 f2 ss ts) (costOf d f (mirrorRes d2 f2 ts).1 (mirrorRes d2 f2 ts).2.1 ss (mirrorRes d2 f2 ts).2.2) by unfold sideOf; rw [if_neg hneg])
    have hbd2 := costOf_bd d f (mirrorRes d2 f2 ts).1 (mirrorRes d2 f2 ts).2.1 ss (mirrorRes d2 f2 ts).2.2 (by omega)
    obtain ⟨hbdc, hbdd⟩ := hbd2
    have hmo := mirror_ok d2 f2 ts 16777216 (by omega) hT.sb
    have HMO := hide hmo
    clear hl hl2 hmo
    have hmir := fun (W : World) (h : Strs W B A2 n2 ts) (hB : B ≤ W.heap.size) => i_MirrorCard d2 f2 B A2 n2 c2 ts W h hB
    have HMIR := hide hmir
    clear hmir
    generalize e1 : (mirrorRes d2 f2 ts).1 = d3 at *
    generalize e2 : (mirrorRes d2 f2 ts).2.1 = f3 at *
    generalize e3 : (mirrorRes d2 f2 ts).2.2 = us at *
    clear e1 e2 e3
    go_enter Try.func42, Try.ntmps42
    go_wp2_with (first | (go_at_call 40; refine (i_CardDistance _ _ _ _ B _ _ _ _ _ _ ss ts _ hS2 hT2 (by simp; omega)).mono ?_; rintro e w1 ⟨rfl, hb1⟩; obtain ⟨hcb, hfb⟩ := bcell hb1; have hz_w1_0 : w.heap.size < w1.heap.size := (by have hzz := hb1.size; (try simp at hzz); omega); have hy_w1_0 := Nat.le_of_lt hz_w1_0; have hz_w1_1 : w.heap.size + 1 < w1.heap.size := (by have hzz := hb1.size; (try simp at hzz); omega); have hy_w1_1 := Nat.le_of_lt hz_w1_1))
    have hS3 := hS2.below (hb1.mono (by simp; omega))
    have hT3 := hT2.below (hb1.mono (by simp; omega))
    have hbw : Below w.heap.size w w1 := bel
    have hk1 : w1.heap[w.heap.size]? = some (.cells #[.int .i64 d, .int .i64 f, .slice A n c] 26) := blk_below (box_first w (.cells #[.int .i64 d, .int .i64 f, .slice A n c] 26) (.cells #[.int .i64 d2, .int .i64 f2, .slice A2 n2 c2] 26)) hb1 (by first | (simp; done) | (simp; omega))
    have hk2 : w1.heap[w.heap.size + 1]? = some (.cells #[.int .i64 d2, .int .i64 f2, .slice A2 n2 c2] 26) := blk_below (box_second w (.cells #[.int .i64 d, .int .i64 f, .slice A n c] 26) (.cells #[.int .i64 d2, .int .i64 f2, .slice A2 n2 c2] 26)) hb1 (by first | (simp; done) | (simp; omega))
    have hz1 : w.heap.size + 1 < w1.heap.size := by omega
    have hBw : B ≤ w1.heap.size := by omega
    obtain ⟨hx0, hx1, hx2, hxl⟩ := blk3 hk1
    obtain ⟨hy0, hy1, hy2, hyl⟩ := blk3 hk2
    go_region_held3 (fun W => (∀ b o, b < w1.heap.size → W.cell? ⟨b, o, none⟩ = (w1).cell? ⟨b, o, none⟩) ∧ (∀ b o, b < w1.heap.size → W.frozen? ⟨b, o, none⟩ = (w1).frozen? ⟨b, o, none⟩) ∧ Below (w1.heap.size) (w1) W) (exact keep_of bel) (first | (go_at_call 26; have hq := (‹_ ∧ _ ∧ Below _ _ _›).2.2; refine (unhide HMIR _ (hT3.below (hq.mono hBw)) (Nat.le_trans hBw hq.size)).mono ?_; rintro e w2 ⟨A3, c3, rfl, ho3, hb3⟩; have hqs := hq.size; have hbs3 := hb3.size; (have hS4 : Strs w2 B A n ss := (hS3.below (hq.mono hBw)).below (hb3.mono (Nat.le_trans hBw hqs))); (try simp at hbs3)) | (go_at_call 40; refine (i_CardDistance _ _ _ _ w2.heap.size _ _ _ _ _ _ ss us _ (hS4.more (by omega)) (strs_of_own ho3 (unhide HMO).1 (unhide HMO).2) (Nat.le_refl _)).mono ?_; rintro e w4 ⟨rfl, hb4⟩; have hbs4 := hb4.size))
    go_wp2
    go_ret
    have hb13 : Below w1.heap.size w1 w2 := (Below.refl _ _).drew.trans hb3
    have hz13 := hb13.size
    have hb14 : Below w1.heap.size w1 w4 := hb13.trans (hb4.mono hz13)
    exact ⟨ret_int HP.out.symm, hbw.trans (hb14.mono (by omega))⟩
end Go.Proofs.Yteffbjddgdjkmaa
