/- Contracts of the program's and the reference's functions (Fmt1, Fmt2). -/
import Derived.Handy
import Derived.Lib.Hide
import Derived.Test.YtlimlolciekimaaGreatDoorRows
import Derived.Test.YtlimlolciekimaaGreatDoorQFo
import Derived.Test.YtlimlolciekimaaGreatDoorQFa
import Derived.Test.YtlimlolciekimaaGreatDoorQFb
namespace Go.Proofs.YtlimlolciekimaaGreatDoor
open Go.ChangeShapes Go.WideShapes Go.ChangeAt Go.RowKit
set_option linter.unusedVariables false
set_option maxRecDepth 10000
abbrev Tab (w : World) : Prop := Lib.TabIs Tryz.prog w "internal/strconv.uint64pow10" .u64 Lib.pow10Tab
theorem tab_grow (w : World) (k : Nat) (os : Array Obj) : Below w.heap.size w (Go.Sort.grow (w.drewN k) os) := by
  refine ⟨rfl, rfl, rfl, by simp [Go.Sort.grow], fun i hi => ?_⟩
  show (w.heap ++ os)[i]? = w.heap[i]?
  exact Array.getElem?_append_left hi
theorem Tab.below {w w' : World} (h : Tab w) (hb : Below w.heap.size w w') : Tab w' := by
  unfold Tab Lib.TabIs World.var? at h ⊢
  cases hg : Tryz.prog.globalNamed "internal/strconv.uint64pow10" with
  | none => rw [hg] at h; cases h
  | some g =>
    rw [hg] at h
    have hlt : g < w.heap.size := by
      by_cases h0 : g < w.heap.size
      · exact h0
      · simp [Array.getElem?_eq_none (Nat.le_of_not_lt h0)] at h
    simp only [Option.bind_some] at h ⊢
    rw [hb.block g hlt]
    exact h
theorem size1 (x : UInt8) : (⟨#[x]⟩ : ByteArray).size = 1 := rfl
theorem conv1 (x : Int) (W : World) (h0 : 0 ≤ x) (h1 : x ≤ 255) :
    (convert 22 9 (.slice (some ⟨W.heap.size, 0, none⟩) 1 1)).run Tryz.prog (W.alloc (.cells #[.int .u8 x] 5)) = .ok (.string ⟨#[x.toNat.toUInt8]⟩) (W.alloc (.cells #[.int .u8 x] 5)) := by
  have h := run_convert_bytes_back (P := Tryz.prog) (W.alloc (.cells #[.int .u8 x] 5)) 22 9 5 ⟨W.heap.size, 0, none⟩ 1 [x.toNat.toUInt8] Tryz.underlying22 Tryz.underlying5 Tryz.underlying9
    (fun j hj => by
      have : j = 0 := by simp at hj; omega
      subst this
      show (W.alloc (.cells #[.int .u8 x] 5)).cell? ⟨W.heap.size, 0, none⟩ = _
      rw [World.cell?_alloc_mark]
      obtain ⟨X, rfl⟩ := Int.eq_ofNat_of_zero_le h0
      have hX : X < 256 := by omega
      simp [Nat.mod_eq_of_lt hX])
  exact h
def numT (n : Nat) : ByteArray := ⟨(Lib.decDigits n).toArray⟩
theorem numT_lt {n : Nat} (h : n < 10) : numT n = ⟨#[(48 + n).toUInt8]⟩ := by
  unfold numT; rw [Lib.decDigits, dif_pos h]
theorem numT_ge {n : Nat} (h : 10 ≤ n) : numT n = numT (n / 10) ++ ⟨#[(48 + n % 10).toUInt8]⟩ := by
  apply ba_ext
  rw [ByteArray.data_append, Array.toList_append]
  show Lib.decDigits n = Lib.decDigits (n / 10) ++ _
  rw [Lib.decDigits, dif_neg (by omega)]
theorem itoa_nat (n : Nat) : (⟨(Lib.itoa (n : Int)).toArray⟩ : ByteArray) = numT n := by
  unfold Lib.itoa numT
  rw [if_neg (by omega)]
  simp
set_option maxHeartbeats 800000 in
theorem i_FormatInt (n : Nat) (w : World) (hn : n ≤ 1000000000) (ht : Tab w) :
    Calls Tryz.prog 26 #[.int .i64 n] w fun e w' => e = .returned (.string (numT n)) ∧ Below w.heap.size w w' := by
  go_enter Tryz.func26, Tryz.ntmps26
  go_wp2_with fail
  refine (Tryz.strconv_Itoa n (by omega) (by omega) w ht).mono ?_
  rintro e w1 ⟨rfl, hk⟩
  have hb : Below w.heap.size w w1 := by
    obtain ⟨k, os, hk⟩ := hk
    rw [hk]
    exact tab_grow w k os
  clear hk
  rw [itoa_nat]
  go_wp2
  go_ret
  exact ⟨rfl, hb⟩
set_option maxHeartbeats 800000 in
theorem s_l01Figure (x : Nat) (w : World) (hx : x < 10) : Calls Tryz.prog 96 #[.int .i64 x] w fun e w' => e = .returned (.int .u8 (48 + x)) ∧ w' = w := by
  go_enter Tryz.func96, Tryz.ntmps96
  go_wp2
  go_ret
  exact ⟨rfl, rfl⟩
set_option maxHeartbeats 1600000 in
theorem s_FormatInt (n : Nat) (w : World) (hn : n ≤ 1000000000) :
    Calls Tryz.prog 48 #[.int .i64 n] w fun e w' => e = .returned (.string (numT n)) ∧ Below w.heap.size w w' := by
  by_cases h0 : n = 0
  · subst h0
    go_enter Tryz.func48, Tryz.ntmps48
    go_wp2
    go_ret
    exact ⟨ret_str (by rw [numT_lt (by omega)]; rfl), Below.refl _ _⟩
  · have hn0 : ((n : Int) == 0) = false := by simp; omega
    have hn1 : decide ((n : Int) < 0) = false := by simp
    go_enter Tryz.func48, Tryz.ntmps48
    go_wp2
    go_loopw [0, 4] (fun m t wr => ∃ (q : Nat) (acc : ByteArray), m = .int .i64 q ∧ q ≤ n ∧ acc.size + q ≤ n + 1 ∧ t = .string acc ∧ Hid ((q = 0 ∧ acc = numT n) ∨ (0 < q ∧ numT q ++ acc = numT n)) ∧ Below w.heap.size w wr) (fun m _ _ => (intOf m).toNat)
    case atStart => exact ⟨n, _, rfl, Nat.le_refl _, by show 0 + n ≤ n + 1; omega, rfl, .inr ⟨by omega, by apply ba_ext; simp [ByteArray.data_append]⟩, Below.refl _ _⟩
    case round =>
      obtain ⟨q, acc, rfl, hq, hz, rfl, HD, hb⟩ := hrel
      have hbs := hb.size
      by_cases h1 : 0 < q
      · have hcv := conv1 (48 + (q : Int) % 10) wr (by omega) (by omega)
        have hd : numT q ++ acc = numT n := by rcases HD.out with h | h; omega; exact h.2
        have HN := Lib.hid hd
        clear hd
        obtain ⟨r, hr⟩ : ∃ r : Nat, q % 10 = r := ⟨_, rfl⟩
        have hr10 : r < 10 := by omega
        have hqr : (q : Int) % 10 = r := by omega
        have hcv := conv1 (48 + (r : Int)) wr (by omega) (by omega)
        have HZ : Hid ((({ data := #[48 + UInt8.ofNat r] } : ByteArray) ++ acc).size + q / 10 ≤ n + 1) := by
          unfold Hid; rw [ByteArray.size_append, size1]; omega
        have HR : Hid ((q / 10 = 0 ∧ (({ data := #[48 + UInt8.ofNat r] } : ByteArray) ++ acc) = numT n) ∨ (0 < q / 10 ∧ numT (q / 10) ++ (({ data := #[48 + UInt8.ofNat r] } : ByteArray) ++ acc) = numT n)) := by
          have hd := HN.out
          unfold Hid
          by_cases h10 : 10 ≤ q
          · refine .inr ⟨by omega, ?_⟩
            rw [← hd, numT_ge h10, hr]
            apply ba_ext; simp [ByteArray.data_append]
          · refine .inl ⟨by omega, ?_⟩
            rw [← hd, numT_lt (by omega)]
            have : r = q := by omega
            subst this
            apply ba_ext; simp [ByteArray.data_append]
        go_wp2_with (go_at_call 96; refine (s_l01Figure r _ hr10).mono ?_; rintro e w' ⟨rfl, rfl⟩)
        go_roundw
        case rel => exact ⟨q / 10, _, by go_num, by omega, HZ.out, rfl, HR, bel⟩
        case measure => simp [intOf]; omega
      · have hq0 : q = 0 := by omega
        subst hq0
        have HE : Hid (acc = numT n) := by rcases HD.out with h | h; exact h.2; omega
        go_wp2
        go_ret
        exact ⟨ret_str HE.out, hb⟩
end Go.Proofs.YtlimlolciekimaaGreatDoor
namespace Go.Proofs.YtlimlolciekimaaGreatDoor
open Go.ChangeShapes Go.WideShapes Go.ChangeAt Go.RowKit
set_option linter.unusedVariables false
set_option maxRecDepth 10000
def wordT : Nat → ByteArray
  | 1 => ⟨#[97, 100, 100]⟩
  | 2 => ⟨#[116, 97, 107, 101]⟩
  | 3 => ⟨#[117, 110, 100, 111]⟩
  | 4 => ⟨#[112, 97, 112, 101, 114]⟩
  | 5 => ⟨#[107, 101, 101, 112]⟩
  | 6 => ⟨#[109, 97, 107, 101]⟩
  | 7 => ⟨#[102, 111, 114, 103, 101, 116]⟩
  | _ => ⟨#[114, 111, 111, 109]⟩
def wordN : Nat → Nat
  | 1 => 2
  | 2 => 2
  | 4 => 2
  | 5 => 1
  | 6 => 2
  | 7 => 1
  | _ => 0
def actT (k a b : Nat) : ByteArray :=
  if wordN k = 0 then wordT k else if wordN k = 1 then wordT k ++ (⟨#[32]⟩ ++ numT a) else wordT k ++ (⟨#[32]⟩ ++ numT a) ++ (⟨#[32]⟩ ++ numT b)
def fmtRes (k a b : Int) : ByteArray × Bool := if actOk k a b = true then (actT k.toNat a.toNat b.toNat, true) else (⟨#[]⟩, false)
end Go.Proofs.YtlimlolciekimaaGreatDoor
