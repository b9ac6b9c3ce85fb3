/- Plain laws of turned and mirrored strips and cards. -/
import Derived.Test.YteffbjddgdjkmaaCardP
import Derived.Test.YteffbjddgdjkmaaRoomV
import Derived.Test.YteffbjddgdjkmaaMix1
import Derived.Test.YteffbjddgdjkmaaDraw2
namespace Go.Proofs.Yteffbjddgdjkmaa
set_option linter.unusedVariables false
set_option maxRecDepth 10000

def swpC (x : UInt8) : UInt8 := if x = 100 then 102 else 100
def turnL (l : List UInt8) : List UInt8 := (l.map swpC).reverse
def turnB (s : ByteArray) : ByteArray := if isStrip s.data.toList = true then ⟨(turnL s.data.toList).toArray⟩ else ⟨#[]⟩
def aboveL (a b : List UInt8) : Bool := sameFrame a b && (List.range (a.length + 1)).all (fun k => decide (cnt 102 (b.take k) ≤ cnt 102 (a.take k)))
def Let2 (l : List UInt8) : Prop := ∀ x ∈ l, x = 100 ∨ x = 102

theorem let2_of {l : List UInt8} (h : isStrip l = true) : Let2 l := strip_letter (strip_cnt h)
theorem let2_cnt {l : List UInt8} (h : Let2 l) : cnt 100 l + cnt 102 l = l.length := by
  induction l with
  | nil => rfl
  | cons x l ih =>
    have h1 := ih (fun y hy => h y (List.mem_cons_of_mem _ hy))
    have h2 := h x List.mem_cons_self
    unfold cnt at *
    simp only [List.count_cons, List.length_cons]
    rcases h2 with rfl | rfl <;> simp <;> omega
theorem cnt_cons (c x : UInt8) (l : List UInt8) : cnt c (x :: l) = cnt c l + if x = c then 1 else 0 := by
  unfold cnt; rw [List.count_cons]; by_cases h : x = c <;> simp [h]
theorem cnt_rev (c : UInt8) (l : List UInt8) : cnt c l.reverse = cnt c l := by unfold cnt; simp
theorem cnt_map_f (l : List UInt8) : cnt 102 (l.map swpC) = cnt 100 l := by
  induction l with
  | nil => rfl
  | cons x l ih => rw [List.map_cons, cnt_cons, cnt_cons, ih]; unfold swpC; by_cases h : x = 100 <;> simp [h]
theorem cnt_map_d {l : List UInt8} (h : Let2 l) : cnt 100 (l.map swpC) = cnt 102 l := by
  induction l with
  | nil => rfl
  | cons x l ih =>
    rw [List.map_cons, cnt_cons, cnt_cons, ih (fun y hy => h y (List.mem_cons_of_mem _ hy))]
    rcases h x List.mem_cons_self with rfl | rfl <;> simp [swpC]
theorem turn_f (l : List UInt8) : cnt 102 (turnL l) = cnt 100 l := by unfold turnL; rw [cnt_rev, cnt_map_f]
theorem turn_d {l : List UInt8} (h : Let2 l) : cnt 100 (turnL l) = cnt 102 l := by unfold turnL; rw [cnt_rev, cnt_map_d h]
theorem turn_len (l : List UInt8) : (turnL l).length = l.length := by unfold turnL; simp
theorem turn_let (l : List UInt8) : Let2 (turnL l) := by
  intro x hx
  unfold turnL at hx
  rw [List.mem_reverse, List.mem_map] at hx
  obtain ⟨y, _, rfl⟩ := hx
  unfold swpC
  split
  · exact .inr rfl
  · exact .inl rfl
theorem swp_swp {x : UInt8} (h : x = 100 ∨ x = 102) : swpC (swpC x) = x := by rcases h with rfl | rfl <;> rfl
theorem map_swp2 : ∀ {l : List UInt8}, Let2 l → (l.map swpC).map swpC = l
  | [], _ => rfl
  | x :: l, h => by
    rw [List.map_cons, List.map_cons, swp_swp (h x List.mem_cons_self), map_swp2 (fun y hy => h y (List.mem_cons_of_mem _ hy))]
theorem turn_turn {l : List UInt8} (h : Let2 l) : turnL (turnL l) = l := by
  unfold turnL
  rw [List.map_reverse, List.reverse_reverse, map_swp2 h]
theorem turn_strip {l : List UInt8} (h : isStrip l = true) : isStrip (turnL l) = true := by
  have h2 := let2_of h
  unfold isStrip at h ⊢
  rw [turn_f, turn_d h2, turn_len]
  simp only [Bool.and_eq_true, beq_iff_eq] at h ⊢
  exact ⟨by omega, h.2.2, h.2.1⟩
theorem turnB_yes {s : ByteArray} (h : isStrip s.data.toList = true) : turnB s = ⟨(turnL s.data.toList).toArray⟩ := by unfold turnB; rw [if_pos h]
theorem turnB_no {s : ByteArray} (h : isStrip s.data.toList = false) : turnB s = ⟨#[]⟩ := by unfold turnB; rw [if_neg (by rw [h]; simp)]
theorem turnB_list {s : ByteArray} (h : isStrip s.data.toList = true) : (turnB s).data.toList = turnL s.data.toList := by rw [turnB_yes h]
theorem turnB_strip {s : ByteArray} (h : isStrip s.data.toList = true) : isStrip (turnB s).data.toList = true := by rw [turnB_list h]; exact turn_strip h
theorem turnB_turn {s : ByteArray} (h : isStrip s.data.toList = true) : turnB (turnB s) = s := by
  apply ba_ext
  rw [turnB_list (turnB_strip h), turnB_list h, turn_turn (let2_of h)]
theorem turnB_size (s : ByteArray) : (turnB s).size ≤ s.size := by
  unfold turnB
  split
  · show (turnL s.data.toList).toArray.size ≤ _
    rw [List.size_toArray, turn_len]
    exact Nat.le_refl _
  · exact Nat.zero_le _
/-- pairs of a step down ahead of a step forward -/
def pairs : List UInt8 → Nat
  | [] => 0
  | c :: l => pairs l + if c = 102 then 0 else cnt 102 l
theorem sum_hts (u : Int) (l : List UInt8) : sumL (hts u l) = u * cnt 102 l - pairs l := by
  induction l generalizing u with
  | nil => simp [hts, sumL, pairs, cnt]
  | cons x l ih =>
    rw [cnt_cons]
    simp only [hts, pairs]
    by_cases h : x = 102
    · rw [if_pos h, if_pos h, if_pos h, sumL, ih]
      push_cast
      rw [Int.mul_add, Int.mul_one]
      omega
    · rw [if_neg h, if_neg h, if_neg h, ih, Int.sub_mul, Int.one_mul, Nat.add_zero]
      push_cast
      omega
theorem pairs_snoc (l : List UInt8) (x : UInt8) (h : Let2 l) : pairs (l ++ [x]) = pairs l + if x = 102 then cnt 100 l else 0 := by
  induction l with
  | nil => by_cases h : x = 102 <;> simp [pairs, cnt, h]
  | cons c l ih =>
    have hc := h c List.mem_cons_self
    rw [List.cons_append, pairs, pairs, ih (fun y hy => h y (List.mem_cons_of_mem _ hy)), cnt_snoc, cnt_cons]
    rcases hc with rfl | rfl <;> by_cases hx : x = 102 <;> simp [hx] <;> omega
theorem turn_cons (x : UInt8) (l : List UInt8) : turnL (x :: l) = turnL l ++ [swpC x] := by unfold turnL; simp
theorem pairs_turn {l : List UInt8} (h : Let2 l) : pairs (turnL l) = pairs l := by
  induction l with
  | nil => rfl
  | cons x l ih =>
    have hl : Let2 l := fun y hy => h y (List.mem_cons_of_mem _ hy)
    rw [turn_cons, pairs_snoc _ _ (turn_let l), ih hl, turn_d hl, pairs]
    rcases h x List.mem_cons_self with rfl | rfl <;> simp [swpC]
theorem room_turn {s : ByteArray} (h : isStrip s.data.toList = true) : roomOf (turnB s).data.toList = roomOf s.data.toList := by
  have h2 := let2_of h
  rw [roomOf_yes (turnB_strip h), roomOf_yes h, turnB_list h]
  unfold htsOf
  rw [sum_hts, sum_hts, pairs_turn h2, turn_f, turn_d h2, Int.mul_comm]
theorem take_turn_cnt {l : List UInt8} (h : Let2 l) {k : Nat} (hk : k ≤ l.length) : cnt 102 ((turnL l).take k) + (l.length - k) = cnt 100 l + cnt 102 (l.take (l.length - k)) := by
  have e1 : (turnL l).take k = ((l.drop (l.length - k)).map swpC).reverse := by
    unfold turnL
    rw [List.take_reverse, List.length_map, List.map_drop]
  rw [e1, cnt_rev, cnt_map_f]
  have e2 : cnt 100 l = cnt 100 (l.take (l.length - k)) + cnt 100 (l.drop (l.length - k)) := by rw [← cnt_app, List.take_append_drop]
  have e3 := let2_cnt (l := l.take (l.length - k)) (fun x hx => h x (List.mem_of_mem_take hx))
  rw [List.length_take, Nat.min_eq_left (by omega)] at e3
  omega
theorem above_iff {a b : List UInt8} (h : sameFrame a b = true) : aboveL a b = true ↔ ∀ k, k ≤ a.length → cnt 102 (b.take k) ≤ cnt 102 (a.take k) := by
  unfold aboveL
  rw [h]
  simp only [Bool.true_and, List.all_eq_true, List.mem_range, decide_eq_true_eq]
  exact ⟨fun q k hk => q k (by omega), fun q k hk => q k (by omega)⟩
theorem frame_iff {a b : List UInt8} : sameFrame a b = true ↔ isStrip a = true ∧ isStrip b = true ∧ cnt 100 a = cnt 100 b ∧ cnt 102 a = cnt 102 b := by
  unfold sameFrame
  simp only [Bool.and_eq_true, beq_iff_eq]
  exact ⟨fun h => ⟨h.1.1, h.1.2, h.2.1, h.2.2⟩, fun h => ⟨⟨h.1, h.2.1⟩, h.2.2.1, h.2.2.2⟩⟩
theorem frame_turn {a b : List UInt8} (h : sameFrame a b = true) : sameFrame (turnL a) (turnL b) = true := by
  obtain ⟨h1, h2, h3, h4⟩ := frame_iff.1 h
  refine frame_iff.2 ⟨turn_strip h1, turn_strip h2, ?_, ?_⟩
  · rw [turn_d (let2_of h1), turn_d (let2_of h2), h4]
  · rw [turn_f, turn_f, h3]
theorem above_turn {a b : List UInt8} (h : sameFrame a b = true) : aboveL (turnL a) (turnL b) = aboveL a b := by
  obtain ⟨h1, h2, h3, h4⟩ := frame_iff.1 h
  have ha := let2_of h1
  have hb := let2_of h2
  have hl : b.length = a.length := by have := let2_cnt ha; have := let2_cnt hb; omega
  have key : ∀ k, k ≤ a.length → ((cnt 102 ((turnL b).take k) ≤ cnt 102 ((turnL a).take k)) ↔ (cnt 102 (b.take (a.length - k)) ≤ cnt 102 (a.take (a.length - k)))) := by
    intro k hk
    have e1 := take_turn_cnt ha hk
    have e2 := take_turn_cnt hb (k := k) (by omega)
    rw [hl] at e2
    omega
  rw [Bool.eq_iff_iff, above_iff h, above_iff (frame_turn h), turn_len]
  constructor
  · intro q k hk
    have := (key (a.length - k) (by omega)).1 (q _ (by omega))
    rwa [show a.length - (a.length - k) = k by omega] at this
  · intro q k hk
    exact (key k hk).2 (q _ (by omega))
/-- the strips of a valid card -/
theorem strips_of {d f : Int} {ss : List ByteArray} (h : cardOk d f ss = true) {s : ByteArray} (hs : s ∈ ss) : isStrip s.data.toList = true ∧ (cnt 100 s.data.toList : Int) = d ∧ (cnt 102 s.data.toList : Int) = f := by
  unfold cardOk at h
  simp only [Bool.and_eq_true, List.all_eq_true] at h
  have h1 := h.2.2 s hs
  have hd := inB_iff'.1 h.1.1
  unfold stripOf at h1
  simp only [Bool.and_eq_true, beq_iff_eq] at h1
  cases hq : isStrip s.data.toList
  · have e := h1.1
    unfold downOf at e
    rw [hq] at e
    simp at e
    omega
  · have e := h1.1
    have e2 := h1.2
    unfold downOf at e
    unfold forwardOf at e2
    rw [if_pos hq] at e e2
    exact ⟨rfl, e, e2⟩
theorem card_iff {d f : Int} {ss : List ByteArray} : cardOk d f ss = true ↔ (1 ≤ d ∧ d ≤ 8 ∧ 1 ≤ f ∧ f ≤ 8) ∧ (1 ≤ ss.length ∧ ss.length ≤ 10) ∧ ∀ s ∈ ss, isStrip s.data.toList = true ∧ (cnt 100 s.data.toList : Int) = d ∧ (cnt 102 s.data.toList : Int) = f := by
  constructor
  · intro h
    have hb := card_bounds h
    exact ⟨hb.1, hb.2.1, fun s hs => strips_of h hs⟩
  · rintro ⟨h1, h2, h3⟩
    unfold cardOk
    simp only [Bool.and_eq_true, List.all_eq_true]
    refine ⟨⟨inB_iff'.2 ⟨h1.1, h1.2.1⟩, inB_iff'.2 ⟨h1.2.2.1, h1.2.2.2⟩⟩, inB_iff'.2 ⟨by omega, by omega⟩, fun s hs => ?_⟩
    obtain ⟨q1, q2, q3⟩ := h3 s hs
    unfold stripOf downOf forwardOf
    rw [if_pos q1, if_pos q1]
    simp [q2, q3]
theorem cardOk_turn {d f : Int} {ss : List ByteArray} (h : cardOk d f ss = true) : cardOk f d (ss.map turnB) = true := by
  obtain ⟨h1, h2, h3⟩ := card_iff.1 h
  refine card_iff.2 ⟨⟨h1.2.2.1, h1.2.2.2, h1.1, h1.2.1⟩, by rw [List.length_map]; exact h2, fun s hs => ?_⟩
  rw [List.mem_map] at hs
  obtain ⟨t, ht, rfl⟩ := hs
  obtain ⟨q1, q2, q3⟩ := h3 t ht
  refine ⟨turnB_strip q1, ?_, ?_⟩
  · rw [turnB_list q1, turn_d (let2_of q1)]; exact q3
  · rw [turnB_list q1, turn_f]; exact q2
theorem map_turn2 {d f : Int} {ss : List ByteArray} (h : cardOk d f ss = true) : (ss.map turnB).map turnB = ss := by
  rw [List.map_map]
  conv => rhs; rw [← List.map_id ss]
  exact List.map_congr_left fun s hs => turnB_turn (strips_of h hs).1
theorem vol_map {ss : List ByteArray} (g : ByteArray → ByteArray) (h : ∀ s ∈ ss, roomOf (g s).data.toList = roomOf s.data.toList) : volL (ss.map g) = volL ss := by
  induction ss with
  | nil => rfl
  | cons x l ih => rw [List.map_cons, volL, volL, h x List.mem_cons_self, ih (fun s hs => h s (List.mem_cons_of_mem _ hs))]
theorem vol_turn {d f : Int} {ss : List ByteArray} (h : cardOk d f ss = true) : volOf f d (ss.map turnB) = volOf d f ss := by
  unfold volOf
  rw [if_pos (cardOk_turn h), if_pos h]
  exact vol_map _ fun s hs => room_turn (strips_of h hs).1
theorem card_frame {d f : Int} {ss : List ByteArray} (h : cardOk d f ss = true) {s t : ByteArray} (hs : s ∈ ss) (ht : t ∈ ss) : sameFrame s.data.toList t.data.toList = true := by
  obtain ⟨a1, a2, a3⟩ := strips_of h hs
  obtain ⟨b1, b2, b3⟩ := strips_of h ht
  exact frame_iff.2 ⟨a1, b1, by omega, by omega⟩
theorem above_turnB {d f : Int} {ss : List ByteArray} (h : cardOk d f ss = true) {s t : ByteArray} (hs : s ∈ ss) (ht : t ∈ ss) : aboveL (turnB s).data.toList (turnB t).data.toList = aboveL s.data.toList t.data.toList := by
  rw [turnB_list (strips_of h hs).1, turnB_list (strips_of h ht).1, above_turn (card_frame h hs ht)]
-- the strip above two strips
theorem mx_mono1 (a b : List UInt8) (k : Nat) : mx a b k ≤ mx a b (k + 1) ∧ mx a b (k + 1) ≤ mx a b k + 1 := by
  have q : ∀ l : List UInt8, cnt 102 (l.take k) ≤ cnt 102 (l.take (k + 1)) ∧ cnt 102 (l.take (k + 1)) ≤ cnt 102 (l.take k) + 1 := by
    intro l
    by_cases h : k < l.length
    · rw [List.take_succ_eq_append_getElem h, cnt_snoc]
      split <;> omega
    · rw [List.take_of_length_le (by omega), List.take_of_length_le (by omega)]
      omega
  have q1 := q a
  have q2 := q b
  unfold mx
  omega
theorem mix_cnt (a b : List UInt8) (n : Nat) : cnt 102 (mixL a b n) = mx a b n ∧ cnt 100 (mixL a b n) + mx a b n = n := by
  induction n with
  | zero => rw [mx_zero]; exact ⟨rfl, rfl⟩
  | succ n ih =>
    have hm := mx_mono1 a b n
    rw [mixL_succ, cnt_snoc, cnt_snoc]
    unfold mixAt
    split <;> simp <;> omega
theorem mix_take (a b : List UInt8) (n k : Nat) (h : k ≤ n) : (mixL a b n).take k = mixL a b k := by
  unfold mixL
  rw [← List.map_take, List.take_range, Nat.min_eq_left h]
theorem mx_comm (a b : List UInt8) (k : Nat) : mx a b k = mx b a k := by unfold mx; omega
theorem mixL_comm (a b : List UInt8) (n : Nat) : mixL a b n = mixL b a n := by
  unfold mixL mixAt
  refine List.map_congr_left fun k _ => ?_
  rw [mx_comm a b k, mx_comm a b (k + 1)]
theorem mx_full {a b : List UInt8} (h : sameFrame a b = true) : mx a b a.length = cnt 102 a := by
  obtain ⟨h1, h2, h3, h4⟩ := frame_iff.1 h
  have hl : b.length = a.length := by have := let2_cnt (let2_of h1); have := let2_cnt (let2_of h2); omega
  unfold mx
  rw [List.take_of_length_le (Nat.le_refl _), List.take_of_length_le (by omega), h4]
  omega
theorem mixB_list {s t : ByteArray} (h : sameFrame s.data.toList t.data.toList = true) : (mixB s t).data.toList = mixL s.data.toList t.data.toList s.data.toList.length := by
  rw [mixB_yes h]
  rfl
theorem mixB_strip {s t : ByteArray} (h : sameFrame s.data.toList t.data.toList = true) : isStrip (mixB s t).data.toList = true ∧ cnt 100 (mixB s t).data.toList = cnt 100 s.data.toList ∧ cnt 102 (mixB s t).data.toList = cnt 102 s.data.toList := by
  obtain ⟨h1, h2, h3, h4⟩ := frame_iff.1 h
  have hc := let2_cnt (let2_of h1)
  obtain ⟨m1, m2⟩ := mix_cnt s.data.toList t.data.toList s.data.toList.length
  rw [mx_full h] at m1 m2
  rw [mixB_list h]
  refine ⟨?_, by omega, m1⟩
  unfold isStrip at h1 ⊢
  rw [mixL_len, m1]
  simp only [Bool.and_eq_true, beq_iff_eq] at h1 ⊢
  rw [show cnt 100 (mixL s.data.toList t.data.toList s.data.toList.length) = cnt 100 s.data.toList by omega]
  exact ⟨by omega, h1.2⟩
theorem mixB_comm {s t : ByteArray} (h : sameFrame s.data.toList t.data.toList = true) : mixB s t = mixB t s := by
  obtain ⟨h1, h2, h3, h4⟩ := frame_iff.1 h
  have h' : sameFrame t.data.toList s.data.toList = true := frame_iff.2 ⟨h2, h1, h3.symm, h4.symm⟩
  have hl : t.data.toList.length = s.data.toList.length := by have := let2_cnt (let2_of h1); have := let2_cnt (let2_of h2); omega
  apply ba_ext
  rw [mixB_list h, mixB_list h', mixL_comm, hl]
theorem eq_of_cnt {a b : List UInt8} (ha : Let2 a) (hb : Let2 b) (hl : a.length = b.length) (h : ∀ k, k ≤ a.length → cnt 102 (a.take k) = cnt 102 (b.take k)) : a = b := by
  apply List.ext_getElem hl
  intro k h1 h2
  have e1 := h k (by omega)
  have e2 := h (k + 1) (by omega)
  rw [List.take_succ_eq_append_getElem h1, List.take_succ_eq_append_getElem h2, cnt_snoc, cnt_snoc, e1] at e2
  have ha1 := ha _ (List.getElem_mem h1)
  have hb1 := hb _ (List.getElem_mem h2)
  by_cases q1 : a[k] = 102 <;> by_cases q2 : b[k] = 102
  · rw [q1, q2]
  · rw [if_pos q1, if_neg q2] at e2; omega
  · rw [if_neg q1, if_pos q2] at e2; omega
  · rw [ha1.resolve_right q1, hb1.resolve_right q2]
theorem mixB_self {s : ByteArray} (h : isStrip s.data.toList = true) : mixB s s = s := by
  have hf : sameFrame s.data.toList s.data.toList = true := frame_iff.2 ⟨h, h, rfl, rfl⟩
  apply ba_ext
  refine eq_of_cnt (let2_of (mixB_strip hf).1) (let2_of h) (by rw [mixB_list hf, mixL_len]) fun k hk => ?_
  rw [mixB_list hf, mixL_len] at hk
  rw [mixB_list hf, mix_take _ _ _ _ hk, (mix_cnt _ _ _).1]
  unfold mx
  omega
/-- twice the room, by the steps forward in each beginning -/
def begs : List UInt8 → Nat
  | [] => 0
  | c :: l => begs l + if c = 102 then l.length + 1 else 0
theorem begs_room {l : List UInt8} (h : Let2 l) : (begs l : Int) + pairs l + pairs l + begs l = (cnt 100 l : Int) * cnt 102 l + (cnt 100 l : Int) * cnt 102 l + (cnt 102 l : Int) * cnt 102 l + cnt 102 l := by
  induction l with
  | nil => rfl
  | cons x l ih =>
    have hl : Let2 l := fun y hy => h y (List.mem_cons_of_mem _ hy)
    have hc := let2_cnt hl
    have ih := ih hl
    rw [cnt_cons, cnt_cons, begs, pairs]
    have hz : (l.length : Int) = (cnt 100 l : Int) + (cnt 102 l : Int) := by omega
    rcases h x List.mem_cons_self with rfl | rfl
    · simp only [show ¬((100 : UInt8) = 102) by decide, if_neg, if_pos, not_false_eq_true]
      push_cast
      rw [Int.add_mul]
      simp only [Int.one_mul, Int.add_zero]
      generalize (cnt 100 l : Int) * (cnt 102 l : Int) = p at *
      generalize (cnt 102 l : Int) * (cnt 102 l : Int) = q at *
      omega
    · simp only [show ¬((102 : UInt8) = 100) by decide, if_neg, if_pos, not_false_eq_true]
      push_cast
      rw [hz]
      simp only [Int.add_mul, Int.mul_add, Int.one_mul, Int.mul_one, Int.add_zero]
      generalize (cnt 100 l : Int) * (cnt 102 l : Int) = p at *
      generalize (cnt 102 l : Int) * (cnt 102 l : Int) = q at *
      omega
def begT (l : List UInt8) (n : Nat) : Nat := match n with
  | 0 => 0
  | n + 1 => begT l n + cnt 102 (l.take (n + 1))
theorem begT_cons (c : UInt8) (l : List UInt8) (n : Nat) : begT (c :: l) (n + 1) = begT l n + if c = 102 then n + 1 else 0 := by
  induction n with
  | zero => simp only [begT, List.take_succ_cons, List.take_zero]; rw [cnt_cons]; simp [cnt]
  | succ n ih =>
    rw [begT, ih, List.take_succ_cons, cnt_cons, begT]
    split <;> omega
theorem begs_begT (l : List UInt8) : begs l = begT l l.length := by
  induction l with
  | nil => rfl
  | cons c l ih => rw [begs, ih, List.length_cons, begT_cons]
theorem begT_mono {a b : List UInt8} {n : Nat} (h : ∀ k, k ≤ n → cnt 102 (a.take k) ≤ cnt 102 (b.take k)) : begT a n ≤ begT b n := by
  induction n with
  | zero => exact Nat.le_refl _
  | succ n ih => rw [begT, begT]; have := ih (fun k hk => h k (by omega)); have := h (n + 1) (Nat.le_refl _); omega
theorem room_mono {s t : ByteArray} (h : sameFrame s.data.toList t.data.toList = true) (hc : ∀ k, k ≤ s.data.toList.length → cnt 102 (s.data.toList.take k) ≤ cnt 102 (t.data.toList.take k)) : roomOf s.data.toList ≤ roomOf t.data.toList := by
  obtain ⟨h1, h2, h3, h4⟩ := frame_iff.1 h
  have hl : t.data.toList.length = s.data.toList.length := by have := let2_cnt (let2_of h1); have := let2_cnt (let2_of h2); omega
  rw [roomOf_yes h1, roomOf_yes h2]
  unfold htsOf
  rw [sum_hts, sum_hts, ← h3, ← h4]
  have e1 := begs_room (let2_of h1)
  have e2 := begs_room (let2_of h2)
  have e3 := begT_mono hc
  rw [← begs_begT] at e3
  rw [← hl, ← begs_begT] at e3
  rw [← h3, ← h4] at e2
  generalize (cnt 100 s.data.toList : Int) * (cnt 102 s.data.toList : Int) = p at *
  generalize (cnt 102 s.data.toList : Int) * (cnt 102 s.data.toList : Int) = q at *
  omega
theorem room_mix {s t : ByteArray} (h : sameFrame s.data.toList t.data.toList = true) : roomOf s.data.toList ≤ roomOf (mixB s t).data.toList := by
  obtain ⟨m1, m2, m3⟩ := mixB_strip h
  refine room_mono (frame_iff.2 ⟨(frame_iff.1 h).1, m1, m2.symm, m3.symm⟩) fun k hk => ?_
  rw [mixB_list h, mix_take _ _ _ _ hk, (mix_cnt _ _ _).1]
  unfold mx
  omega
theorem zip_lenS (ss ts : List ByteArray) (h : ts.length = ss.length) : (List.zipWith mixB ss ts).length = ss.length := by rw [List.length_zipWith, h, Nat.min_self]
theorem zip_memS : ∀ (ss ts : List ByteArray) (x : ByteArray), x ∈ List.zipWith mixB ss ts → ∃ a ∈ ss, ∃ b ∈ ts, x = mixB a b
  | [], _, x, h => by simp at h
  | _ :: _, [], x, h => by simp at h
  | a :: l, b :: m, x, h => by
    rw [List.zipWith_cons_cons] at h
    rcases List.mem_cons.1 h with h | h
    · exact ⟨a, List.mem_cons_self, b, List.mem_cons_self, h⟩
    · obtain ⟨p, hp, q, hq, e⟩ := zip_memS l m x h
      exact ⟨p, List.mem_cons_of_mem _ hp, q, List.mem_cons_of_mem _ hq, e⟩
/-- the card above a card and its mirrored card -/
def symS (ss : List ByteArray) : List ByteArray := List.zipWith mixB ss ss.reverse
theorem zip_all {P : ByteArray → ByteArray → Prop} : ∀ {a b : List ByteArray}, (∀ x ∈ a, ∀ y ∈ b, P x y) → ∀ z ∈ List.zipWith mixB a b, ∃ x ∈ a, ∃ y ∈ b, z = mixB x y
  | a, b, h, z, hz => zip_memS a b z hz
theorem symS_ok {d f : Int} {ss : List ByteArray} (h : cardOk d f ss = true) : cardOk d f (symS ss) = true := by
  obtain ⟨h1, h2, h3⟩ := card_iff.1 h
  refine card_iff.2 ⟨h1, by unfold symS; rw [zip_lenS _ _ List.length_reverse]; exact h2, fun z hz => ?_⟩
  obtain ⟨a, ha, b, hb, rfl⟩ := zip_memS _ _ _ hz
  rw [List.mem_reverse] at hb
  obtain ⟨m1, m2, m3⟩ := mixB_strip (card_frame h ha hb)
  obtain ⟨q1, q2, q3⟩ := h3 a ha
  exact ⟨m1, by omega, by omega⟩
theorem zip_comm : ∀ (a b : List ByteArray), (∀ x ∈ a, ∀ y ∈ b, mixB x y = mixB y x) → List.zipWith mixB a b = List.zipWith mixB b a
  | [], [], _ => rfl
  | [], _ :: _, _ => rfl
  | _ :: _, [], _ => rfl
  | x :: a, y :: b, h => by
    rw [List.zipWith_cons_cons, List.zipWith_cons_cons, h x List.mem_cons_self y List.mem_cons_self, zip_comm a b fun p hp q hq => h p (List.mem_cons_of_mem _ hp) q (List.mem_cons_of_mem _ hq)]
theorem symS_rev {d f : Int} {ss : List ByteArray} (h : cardOk d f ss = true) : (symS ss).reverse = symS ss := by
  unfold symS
  rw [List.reverse_zipWith (by rw [List.length_reverse]), List.reverse_reverse]
  exact zip_comm _ _ fun x hx y hy => mixB_comm (card_frame h (List.mem_reverse.1 hx) hy)
theorem zip_self : ∀ (a : List ByteArray), (∀ x ∈ a, mixB x x = x) → List.zipWith mixB a a = a
  | [], _ => rfl
  | x :: a, h => by rw [List.zipWith_cons_cons, h x List.mem_cons_self, zip_self a fun y hy => h y (List.mem_cons_of_mem _ hy)]
theorem symS_iff {d f : Int} {ss : List ByteArray} (h : cardOk d f ss = true) : ss.reverse = ss ↔ ss = symS ss := by
  constructor
  · intro q
    unfold symS
    rw [q]
    exact (zip_self ss fun x hx => mixB_self (strips_of h hx).1).symm
  · intro q
    have e := symS_rev h
    rw [← q] at e
    exact e
theorem vol_zip : ∀ (a b : List ByteArray), a.length = b.length → (∀ x ∈ a, ∀ y ∈ b, roomOf x.data.toList ≤ roomOf (mixB x y).data.toList) → volL a ≤ volL (List.zipWith mixB a b)
  | [], [], _, _ => Int.le_refl _
  | [], _ :: _, h, _ => by simp at h
  | _ :: _, [], h, _ => by simp at h
  | x :: a, y :: b, h, q => by
    rw [List.zipWith_cons_cons, volL, volL]
    have h1 := q x List.mem_cons_self y List.mem_cons_self
    have h2 := vol_zip a b (by simpa using h) fun p hp r hr => q p (List.mem_cons_of_mem _ hp) r (List.mem_cons_of_mem _ hr)
    omega
theorem vol_sym {d f : Int} {ss : List ByteArray} (h : cardOk d f ss = true) : volOf d f ss ≤ volOf d f (symS ss) := by
  unfold volOf
  rw [if_pos h, if_pos (symS_ok h)]
  exact vol_zip _ _ (by simp) fun x hx y hy => room_mix (card_frame h hx (List.mem_reverse.1 hy))
end Go.Proofs.Yteffbjddgdjkmaa
