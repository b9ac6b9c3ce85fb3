/- ScriptText of both packages. -/
import Derived.Test.YtmnlinclbnbpoaaDoorFmt2
import Derived.Test.YtmnlinclbnbpoaaDoorRowAct
import Derived.Lib.AppendStr
namespace Go.Proofs.YtmnlinclbnbpoaaDoor
open Go.ChangeShapes Go.WideShapes Go.ChangeAt Go.RowKit
set_option linter.unusedVariables false
set_option maxRecDepth 10000

def actR (x : PAct) : ByteArray × Bool := fmtRes x.k x.a x.b
def lineT (x : PAct) : ByteArray := (actR x).1 ++ ⟨#[10]⟩
def scrT (l : List PAct) : Nat → ByteArray
  | 0 => ⟨#[]⟩
  | j + 1 => scrT l j ++ lineT (l.getD j ⟨0, 0, 0⟩)
def okTo (l : List PAct) (j : Nat) : Prop := ∀ i (h : i < l.length), i < j → (actR l[i]).2 = true
def scrRes (l : List PAct) : ByteArray × Bool := if l.length ≤ 40 ∧ l.all (fun x => (actR x).2) = true then (scrT l l.length, true) else (⟨#[]⟩, false)
theorem scrRes_long {l : List PAct} (h : 40 < l.length) : scrRes l = (⟨#[]⟩, false) := by unfold scrRes; rw [if_neg (by omega)]
theorem scrRes_bad {l : List PAct} {j : Nat} (hj : j < l.length) (h : (actR l[j]).2 = false) : scrRes l = (⟨#[]⟩, false) := by
  unfold scrRes
  rw [if_neg]
  rintro ⟨_, h2⟩
  rw [List.all_eq_true] at h2
  rw [h2 _ (List.getElem_mem hj)] at h
  cases h
theorem scrRes_ok {l : List PAct} (h : l.length ≤ 40) (hk : okTo l l.length) : scrRes l = (scrT l l.length, true) := by
  unfold scrRes
  rw [if_pos]
  refine ⟨h, List.all_eq_true.2 fun x hx => ?_⟩
  obtain ⟨i, hi, rfl⟩ := List.getElem_of_mem hx
  exact hk i hi hi
theorem okTo_zero (l : List PAct) : okTo l 0 := fun i _ h => absurd h (Nat.not_lt_zero _)
theorem okTo_succ {l : List PAct} {j : Nat} (h : okTo l j) (hj : j < l.length) (h2 : (actR l[j]).2 = true) : okTo l (j + 1) := by
  intro i hi hij
  by_cases h3 : i < j
  · exact h i hi h3
  · have : i = j := by omega
    subst this
    exact h2
theorem scrT_succ (l : List PAct) (j : Nat) (hj : j < l.length) : scrT l (j + 1) = scrT l j ++ lineT l[j] := by
  show scrT l j ++ _ = _
  rw [List.getD_eq_getElem?_getD, List.getElem?_eq_getElem hj]
  rfl
theorem wordT_le (k : Nat) : (wordT k).size ≤ 6 := by
  unfold wordT
  split <;> decide
theorem actT_le (k : Nat) {a b : Nat} (ha : a ≤ 9) (hb : b ≤ 1000) : (actT k a b).size ≤ 1098 := by
  have h1 := wordT_le k
  have h2 := numT_size a
  have h3 := numT_size b
  unfold actT
  split
  · omega
  · split
    · rw [ByteArray.size_append, ByteArray.size_append, size1]; omega
    · rw [ByteArray.size_append, ByteArray.size_append, ByteArray.size_append, ByteArray.size_append, size1]; omega
theorem actR_le (x : PAct) : (actR x).1.size ≤ 1098 := by
  unfold actR
  cases hc : actOk x.k x.a x.b with
  | false => rw [fmtRes_no hc]; decide
  | true =>
    obtain ⟨_, A, B, h1, h2, h3, h4⟩ := actOk_parts hc
    rw [h1, h2] at hc ⊢
    rw [fmtRes_yes hc]
    exact actT_le _ h3 h4
theorem scrT_le (l : List PAct) : ∀ j, (scrT l j).size ≤ 1100 * j
  | 0 => by show 0 ≤ _; omega
  | j + 1 => by
    have ih := scrT_le l j
    have h := actR_le (l.getD j ⟨0, 0, 0⟩)
    show (scrT l j ++ lineT _).size ≤ _
    rw [ByteArray.size_append]
    unfold lineT
    rw [ByteArray.size_append, size1]
    omega
set_option maxHeartbeats 3200000 in
theorem i_ScriptText (B : Nat) (A : Option Addr) (n c : Nat) (l : List PAct) (w : World) (hS : Acts w B A n l) (hB : B ≤ w.heap.size) (ht : Tab w) :
    Calls Tryd.prog 12 #[.slice A n c] w fun e w' => e = .returned (.tuple #[.string (scrRes l).1, .bool (scrRes l).2]) ∧ Below w.heap.size w w' := by
  have hn := hS.nb
  have hl := hS.len
  by_cases h40 : 40 < n
  · rw [scrRes_long (by omega)]
    clear hl
    go_enter Tryd.func12, Tryd.ntmps12
    go_wp2
    go_ret2
    exact ⟨rfl, Below.refl _ _⟩
  · have HL := Lib.hid hl
    clear hl
    go_enter Tryd.func12, Tryd.ntmps12
    go_wp2
    go_loopw [4, 14] (fun o i wr => ∃ j : Nat, j ≤ n ∧ o = .string (scrT l j) ∧ i = .int .i64 j ∧ Hid (okTo l j) ∧ Below w.heap.size w wr) (fun _ i _ => n - (intOf i).toNat)
    case atStart => exact ⟨0, Nat.zero_le _, rfl, rfl, okTo_zero l, Below.refl _ _⟩
    case round =>
      obtain ⟨j, hj, rfl, rfl, HO, hb⟩ := hrel
      have hzr := hb.size
      have hsc := scrT_le l j
      by_cases hlt : j < n
      · obtain ⟨hk, ad, rfl, hab, hc0, hc1, hc2⟩ := (hS.below (hb.mono hB)).at_ hlt
        have hra := actR_le l[j]
        have ov1 : ¬ 9223372036854775807 < (actR l[j]).1.size + (⟨#[10]⟩ : ByteArray).size := by rw [size1]; omega
        have ov2 : ¬ 9223372036854775807 < (scrT l j).size + ((actR l[j]).1 ++ (⟨#[10]⟩ : ByteArray)).size := by rw [ByteArray.size_append, size1]; omega
        have HF := hide (fun (W : World) (h : Tab W) => (show Calls Tryd.prog 8 #[.agg #[.int .i64 l[j].k, .int .i64 l[j].a, .int .i64 l[j].b]] W fun e w' => e = .returned (.tuple #[.string (actR l[j]).1, .bool (actR l[j]).2]) ∧ Below W.heap.size W w' from i_FormatAct l[j].k l[j].a l[j].b W h))
        have HR := Lib.hid (scrT_succ l j hk)
        unfold lineT at HR
        have hb0 : Below w.heap.size w (wr.alloc (.cells #[.int .i64 l[j].k, .int .i64 l[j].a, .int .i64 l[j].b] 26)) := hb.trans bel
        have HB := hide (fun h => scrRes_bad hk h)
        have HO2 := hide (fun h => okTo_succ HO.out hk h)
        go_wp2_with fail
        generalize (wr.alloc (.cells #[.int .i64 l[j].k, .int .i64 l[j].a, .int .i64 l[j].b] 26)) = w0 at *
        refine (HF.out w0 (ht.below hb0)).mono ?_
        clear HF hc0 hc1 hc2
        generalize actR l[j] = r at *
        rintro e w1 ⟨rfl, hb1⟩
        have hb1' : Below w.heap.size w w1 := hb0.trans (hb1.mono hb0.size)
        cases hq : r.2
        · go_wp2
          go_ret2
          rw [HB.out hq]
          exact ⟨rfl, hb1'⟩
        · have HO3 := hide (HO2.out hq)
          clear HO2 HB
          go_wp2
          go_roundw
          case rel => exact ⟨j + 1, by omega, by rw [HR.out], by go_num, HO3, hb1'⟩
          case measure => simp [intOf]; omega
      · have hjn : j = n := by omega
        subst hjn
        have HE : Hid (scrRes l = (scrT l j, true)) := by
          have hl := HL.out
          unfold Hid
          rw [scrRes_ok (by omega) (by rw [hl]; exact HO.out), hl]
        go_wp2
        go_ret2
        rw [HE.out]
        exact ⟨rfl, hb⟩
theorem info_u8 : (Tryd.prog.info? 5).map (fun i => (i.zero, i.size, i.bytes)) = some (some (.int .u8 0), 1, 1) := by kernel_rfl
theorem own_str {w : World} {base g c m : Nat} {s : ByteArray} (h : w.ownsRow base 5 1 (.slice (some ⟨g, 0, none⟩) m c) m (Lib.strCells s)) :
    (convert 46 9 (.slice (some ⟨g, 0, none⟩) m c)).run Tryd.prog w = .ok (.string s) w := by
  have hm : m = s.data.toList.length := by
    have := h.1
    rw [Lib.strCells_length] at this
    have h2 : s.size = s.data.toList.length := by rw [Array.length_toList]; rfl
    omega
  subst hm
  rw [run_convert_bytes_back w 46 9 5 ⟨g, 0, none⟩ c s.data.toList Tryd.underlying46 Tryd.underlying5 Tryd.underlying9 (fun j hj => by
    have hx : (Lib.strCells s)[j]? = some (.int .u8 (s.data.toList[j].toNat : Int)) := by
      unfold Lib.strCells
      rw [List.getElem?_map, List.getElem?_eq_getElem hj]; rfl
    exact h.cells (g := g) rfl j _ hx)]
theorem own_some {w : World} {base n : Nat} {e : TypeId} {v : Value} {xs : List Value} (h : w.ownsRow base e 1 v n xs) (hne : v ≠ .slice none 0 0) : ∃ g c, v = .slice (some ⟨g, 0, none⟩) n c := by
  rcases h.2 with ⟨rfl, _⟩ | ⟨g, cap, cur, rfl, _⟩
  · exact absurd rfl hne
  · exact ⟨g, cap, rfl⟩
theorem strCells_app (a b : ByteArray) : Lib.strCells a ++ Lib.strCells b = Lib.strCells (a ++ b) := by
  unfold Lib.strCells; rw [ByteArray.data_append, Array.toList_append, List.map_append]
set_option maxHeartbeats 3200000 in
theorem s_ScriptText (B : Nat) (A : Option Addr) (n c : Nat) (l : List PAct) (w : World) (hS : Acts w B A n l) (hB : B ≤ w.heap.size) :
    Calls Tryd.prog 10 #[.slice A n c] w fun e w' => e = .returned (.tuple #[.string (scrRes l).1, .bool (scrRes l).2]) ∧ Below w.heap.size w w' := by
  have hn := hS.nb
  have hl := hS.len
  have HL := Lib.hid hl
  clear hl
  obtain ⟨i0, hi0, hi1, hi2, hi3⟩ := info_parts info_u8
  go_enter Tryd.func10, Tryd.ntmps10
  go_wp2
  go_loopw [4, 5] (fun o i wr => ∃ (j g cc m : Nat), j ≤ n ∧ (j = 0 ∨ n ≤ 40) ∧ o = .slice (some ⟨g, 0, none⟩) m cc ∧ Hid (m = (scrT l j).size) ∧ i = .int .i64 j ∧ Hid (okTo l j) ∧ wr.ownsRow w.heap.size 5 1 (.slice (some ⟨g, 0, none⟩) m cc) m (Lib.strCells (scrT l j)) ∧ Below w.heap.size w wr) (fun _ i _ => n - (intOf i).toNat)
  case atStart =>
    refine ⟨0, w.heap.size, 0, 0, Nat.zero_le _, .inl rfl, rfl, rfl, rfl, okTo_zero l, ?_, bel⟩
    have h := World.ownsRow_lit (w := w) (base := w.heap.size) (e := 5) (size := 1) #[] 0 (Nat.le_refl _) (by unfold maxLen; omega) rfl
    simpa [Lib.strCells, scrT] using h
  case round =>
    obtain ⟨j, g, cc, m, hj, hj4, rfl, HM, rfl, HO, ho, hb⟩ := hrel
    have hzr := hb.size
    have hsc := scrT_le l j
    by_cases hlt : j < n
    · obtain ⟨hk, ad, rfl, hab, hc0, hc1, hc2⟩ := (hS.below (hb.mono hB)).at_ hlt
      have hra := actR_le l[j]
      have ov1 : ¬ 9223372036854775807 < (actR l[j]).1.size + (⟨#[10]⟩ : ByteArray).size := by rw [size1]; omega
      have HF := hide (fun (W : World) => (show Calls Tryd.prog 6 #[.agg #[.int .i64 l[j].k, .int .i64 l[j].a, .int .i64 l[j].b]] W fun e w' => e = .returned (.tuple #[.string (actR l[j]).1, .bool (actR l[j]).2]) ∧ Below W.heap.size W w' from s_FormatAct l[j].k l[j].a l[j].b W))
      have HR := Lib.hid (scrT_succ l j hk)
      unfold lineT at HR
      have HB := hide (fun h => scrRes_bad hk h)
      have HO2 := hide (fun h => okTo_succ HO.out hk h)
      go_wp2_with fail
      refine (HF.out wr).mono ?_
      clear HF hc0 hc1 hc2
      have hsz3 : ((actR l[j]).1 ++ (⟨#[10]⟩ : ByteArray)).size = (actR l[j]).1.size + 1 := by rw [ByteArray.size_append, size1]
      generalize actR l[j] = r at *
      rintro e w1 ⟨rfl, hb1⟩
      have hb1' : Below w.heap.size w w1 := hb.trans (hb1.mono hb.size)
      have ho1 := own_below ho hb1
      have hz1 := hb1.size
      cases hq : r.2
      · go_wp2
        go_ret2
        rw [HB.out hq]
        exact ⟨rfl, hb1'⟩
      · by_cases h40 : 40 < n
        · have hlong : scrRes l = (⟨#[]⟩, false) := scrRes_long (by have := HL.out; omega)
          have HG := Lib.hid hlong
          clear hlong
          go_wp2
          go_ret2
          rw [HG.out]
          exact ⟨rfl, hb1'⟩
        · have HO3 := hide (HO2.out hq)
          clear HO2 HB
          have hm2 : m + (r.1 ++ (⟨#[10]⟩ : ByteArray)).size ≤ 1000000 := by have := HM.out; rw [hsz3]; omega
          have HS3 := Lib.hid hsz3
          clear hsz3
          go_wp2_with (at_builtin; refine Lib.wpList_append_own_string w1 rfl (.tmp 30) (.tmp 32) 46 9 rfl w.heap.size 5 i0 Tryd.underlying46 Tryd.underlying9 hi0 hi1 hi2 hi3 (.slice (some ⟨g, 0, none⟩) m cc) m _ rfl ho1 _ rfl (by unfold maxLen; omega) (by omega) (by omega) ?_; intro v' w2 ho2 hg2 hv2; obtain ⟨g2, c2, rfl⟩ := own_some ho2 (fun h => by have h3 := (hv2.1 h).1; cases h3))
          go_roundw
          case rel =>
            have hb2 : Below w.heap.size w1 w2 := grown_below hg2 (fun k hk => (ho1.lt k hk).1) hb1'.size
            refine ⟨j + 1, g2, c2, _, by omega, .inr (by omega), rfl, ?_, by go_num, HO3, ?_, hb1'.trans hb2⟩
            · unfold Hid; rw [HR.out, ByteArray.size_append, HM.out, HS3.out]
            · rw [strCells_app, HS3.out] at ho2; rw [HR.out]; exact ho2
          case measure => simp [intOf]; omega
    · have hjn : j = n := by omega
      subst hjn
      have HE : Hid (scrRes l = (scrT l j, true)) := by
        have hl := HL.out
        unfold Hid
        rw [scrRes_ok (by omega) (by rw [hl]; exact HO.out), hl]
      have hcv := own_str ho
      go_wp2
      go_ret2
      rw [HE.out]
      exact ⟨rfl, hb⟩
end Go.Proofs.YtmnlinclbnbpoaaDoor
