/- The numerals of both packages: FormatInt. -/
import Derived.Test.YtlimlolciekimaaDoorAct1
import Derived.Test.YtlimlolciekimaaDoorShelf
import Derived.Lib.Hide
namespace Go.Proofs.YtlimlolciekimaaDoor
open Go.ChangeShapes Go.WideShapes Go.ChangeAt Go.RowKit
set_option linter.unusedVariables false
set_option maxRecDepth 10000

abbrev Tab (w : World) : Prop := Lib.TabIs Tryd.prog w "internal/strconv.uint64pow10" .u64 Lib.pow10Tab
theorem tab_grow (w : World) (k : Nat) (os : Array Obj) : Below w.heap.size w (Go.Sort.grow (w.drewN k) os) := by
  refine ⟨rfl, rfl, rfl, by simp [Go.Sort.grow], fun i hi => ?_⟩
  show (w.heap ++ os)[i]? = w.heap[i]?
  exact Array.getElem?_append_left hi
theorem Tab.below {w w' : World} (h : Tab w) (hb : Below w.heap.size w w') : Tab w' := by
  unfold Tab Lib.TabIs World.var? at h ⊢
  cases hg : Tryd.prog.globalNamed "internal/strconv.uint64pow10" with
  | none => rw [hg] at h; cases h
  | some g =>
    rw [hg] at h
    have hlt : g < w.heap.size := by
      by_cases h0 : g < w.heap.size
      · exact h0
      · simp [Array.getElem?_eq_none (Nat.le_of_not_lt h0)] at h
    simp only [Option.bind_some] at h ⊢
    rw [hb.block g hlt]
    exact h
theorem size1 (x : UInt8) : (⟨#[x]⟩ : ByteArray).size = 1 := rfl
theorem conv1 (x : Int) (W : World) (h0 : 0 ≤ x) (h1 : x ≤ 255) :
    (convert 49 9 (.slice (some ⟨W.heap.size, 0, none⟩) 1 1)).run Tryd.prog (W.alloc (.cells #[.int .u8 x] 5)) = .ok (.string ⟨#[x.toNat.toUInt8]⟩) (W.alloc (.cells #[.int .u8 x] 5)) := by
  have h := run_convert_bytes_back (P := Tryd.prog) (W.alloc (.cells #[.int .u8 x] 5)) 49 9 5 ⟨W.heap.size, 0, none⟩ 1 [x.toNat.toUInt8] Tryd.underlying49 Tryd.underlying5 Tryd.underlying9
    (fun j hj => by
      have : j = 0 := by simp at hj; omega
      subst this
      show (W.alloc (.cells #[.int .u8 x] 5)).cell? ⟨W.heap.size, 0, none⟩ = _
      rw [World.cell?_alloc_mark]
      obtain ⟨X, rfl⟩ := Int.eq_ofNat_of_zero_le h0
      have hX : X < 256 := by omega
      simp [Nat.mod_eq_of_lt hX])
  exact h
/-- the decimal numeral of a natural number -/
def numT (n : Nat) : ByteArray := ⟨(Lib.decDigits n).toArray⟩
theorem numT_lt {n : Nat} (h : n < 10) : numT n = ⟨#[(48 + n).toUInt8]⟩ := by
  unfold numT; rw [Lib.decDigits, dif_pos h]
theorem numT_ge {n : Nat} (h : 10 ≤ n) : numT n = numT (n / 10) ++ ⟨#[(48 + n % 10).toUInt8]⟩ := by
  apply ba_ext
  rw [ByteArray.data_append, Array.toList_append]
  show Lib.decDigits n = Lib.decDigits (n / 10) ++ _
  rw [Lib.decDigits, dif_neg (by omega)]
theorem itoa_nat (n : Nat) : (⟨(Lib.itoa (n : Int)).toArray⟩ : ByteArray) = numT n := by
  unfold Lib.itoa numT
  rw [if_neg (by omega)]
  simp
theorem numT_size : ∀ n : Nat, (numT n).size ≤ n + 1 := by
  intro n
  induction n using Nat.strongRecOn with
  | ind n ih =>
    by_cases h : n < 10
    · rw [numT_lt h]; show 1 ≤ n + 1; omega
    · rw [numT_ge (by omega), ByteArray.size_append, size1]
      have := ih (n / 10) (by omega)
      omega
set_option maxHeartbeats 800000 in
theorem i_FormatInt (n : Nat) (w : World) (hn : n ≤ 1000000000) (ht : Tab w) :
    Calls Tryd.prog 24 #[.int .i64 n] w fun e w' => e = .returned (.string (numT n)) ∧ Below w.heap.size w w' := by
  go_enter Tryd.func24, Tryd.ntmps24
  go_wp2_with fail
  refine (Tryd.strconv_Itoa n (by omega) (by omega) w ht).mono ?_
  rintro e w1 ⟨rfl, hk⟩
  have hb : Below w.heap.size w w1 := by
    obtain ⟨k, os, hk⟩ := hk
    rw [hk]
    exact tab_grow w k os
  clear hk
  rw [itoa_nat]
  go_wp2
  go_ret
  exact ⟨rfl, hb⟩
set_option maxHeartbeats 800000 in
theorem s_l01Figure (x : Nat) (w : World) (hx : x < 10) : Calls Tryd.prog 28 #[.int .i64 x] w fun e w' => e = .returned (.int .u8 (48 + x)) ∧ w' = w := by
  go_enter Tryd.func28, Tryd.ntmps28
  go_wp2
  go_ret
  exact ⟨rfl, rfl⟩
set_option maxHeartbeats 1600000 in
theorem s_FormatInt (n : Nat) (w : World) (hn : n ≤ 1000000000) :
    Calls Tryd.prog 18 #[.int .i64 n] w fun e w' => e = .returned (.string (numT n)) ∧ Below w.heap.size w w' := by
  by_cases h0 : n = 0
  · subst h0
    go_enter Tryd.func18, Tryd.ntmps18
    go_wp2
    go_ret
    exact ⟨ret_str (by rw [numT_lt (by omega)]; rfl), Below.refl _ _⟩
  · have hn0 : ((n : Int) == 0) = false := by simp; omega
    have hn1 : decide ((n : Int) < 0) = false := by simp
    go_enter Tryd.func18, Tryd.ntmps18
    go_wp2
    go_loopw [0, 4] (fun m t wr => ∃ (q : Nat) (acc : ByteArray), m = .int .i64 q ∧ q ≤ n ∧ acc.size + q ≤ n + 1 ∧ t = .string acc ∧ Hid ((q = 0 ∧ acc = numT n) ∨ (0 < q ∧ numT q ++ acc = numT n)) ∧ Below w.heap.size w wr) (fun m _ _ => (intOf m).toNat)
    case atStart => exact ⟨n, _, rfl, Nat.le_refl _, by show 0 + n ≤ n + 1; omega, rfl, .inr ⟨by omega, by apply ba_ext; simp [ByteArray.data_append]⟩, Below.refl _ _⟩
    case round =>
      obtain ⟨q, acc, rfl, hq, hz, rfl, HD, hb⟩ := hrel
      have hbs := hb.size
      by_cases h1 : 0 < q
      · have hcv := conv1 (48 + (q : Int) % 10) wr (by omega) (by omega)
        have hd : numT q ++ acc = numT n := by rcases HD.out with h | h; omega; exact h.2
        have HN := Lib.hid hd
        clear hd
        obtain ⟨r, hr⟩ : ∃ r : Nat, q % 10 = r := ⟨_, rfl⟩
        have hr10 : r < 10 := by omega
        have hqr : (q : Int) % 10 = r := by omega
        have hcv := conv1 (48 + (r : Int)) wr (by omega) (by omega)
        have HZ : Hid ((({ data := #[48 + UInt8.ofNat r] } : ByteArray) ++ acc).size + q / 10 ≤ n + 1) := by
          unfold Hid; rw [ByteArray.size_append, size1]; omega
        have HR : Hid ((q / 10 = 0 ∧ (({ data := #[48 + UInt8.ofNat r] } : ByteArray) ++ acc) = numT n) ∨ (0 < q / 10 ∧ numT (q / 10) ++ (({ data := #[48 + UInt8.ofNat r] } : ByteArray) ++ acc) = numT n)) := by
          have hd := HN.out
          unfold Hid
          by_cases h10 : 10 ≤ q
          · refine .inr ⟨by omega, ?_⟩
            rw [← hd, numT_ge h10, hr]
            apply ba_ext; simp [ByteArray.data_append]
          · refine .inl ⟨by omega, ?_⟩
            rw [← hd, numT_lt (by omega)]
            have : r = q := by omega
            subst this
            apply ba_ext; simp [ByteArray.data_append]
        go_wp2_with (go_at_call 28; refine (s_l01Figure r _ hr10).mono ?_; rintro e w' ⟨rfl, rfl⟩)
        go_roundw
        case rel => exact ⟨q / 10, _, by go_num, by omega, HZ.out, rfl, HR, bel⟩
        case measure => simp [intOf]; omega
      · have hq0 : q = 0 := by omega
        subst hq0
        have HE : Hid (acc = numT n) := by rcases HD.out with h | h; exact h.2; omega
        go_wp2
        go_ret
        exact ⟨ret_str HE.out, hb⟩
end Go.Proofs.YtlimlolciekimaaDoor
