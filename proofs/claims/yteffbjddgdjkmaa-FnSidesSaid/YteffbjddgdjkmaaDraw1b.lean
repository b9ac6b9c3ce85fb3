/- The drawer's cursor: l01Byte, l01Below, l01Once, l01New. -/
import Derived.Test.YteffbjddgdjkmaaDraw1
import Derived.BigQuiet
import Derived.Deep.QuietTactic
namespace Go.Proofs.Yteffbjddgdjkmaa
open Go.ChangeShapes Go.WideShapes Go.ChangeAt Go.RowKit
set_option linter.unusedVariables false
set_option maxRecDepth 10000

theorem cur_of {w w' : World} {g B : Nat} {A : Option Addr} {c : Nat} {bs : List Int} {i h : Int} (hC : Cur w g B A c bs) (hg : w.grownBy w' (some g)) (h0 : 0 ≤ i) (h1 : i ≤ bs.length) (hk : w'.heap[g]? = some (.cells #[.slice A bs.length c, .int .i64 i, .int .i64 h] 145 (0, 0))) : Cur w' g B A c bs :=
  ⟨⟨hC.code.rd.grown hg (Nat.le_trans hC.lo (Nat.le_of_lt hC.lt)) (fun g' hg' => by injection hg' with hg'; subst hg'; exact hC.lo), hC.code.nb, hC.code.bd⟩, hC.lo, i, h, h0, h1, hk⟩
theorem tmod_bd {x n : Int} (h0 : 0 ≤ x) (hn : 0 < n) : 0 ≤ Int.tmod x n ∧ Int.tmod x n < n := ⟨Int.tmod_nonneg _ h0, Int.tmod_lt_of_pos _ hn⟩
/-- what a call that draws leaves: a number from 0 on and below n -/
def Drawn (n : Int) (g B : Nat) (A : Option Addr) (c : Nat) (bs : List Int) (w : World) (e : Ending) (w' : World) : Prop :=
  ∃ x : Int, e = .returned (.int .i64 x) ∧ 0 ≤ x ∧ x < n ∧ Cur w' g B A c bs ∧ w.grownBy w' (some g)
theorem drawn_only (w : World) (g m : Nat) (v : Value) : w.grownBy ((w.drewN m).setCell ⟨g, 1, none⟩ v) (some g) :=
  only_setCell (p := ⟨g, 1, none⟩) (⟨rfl, rfl, rfl, Nat.le_refl _, fun _ _ _ => rfl⟩ : w.grownBy (w.drewN m) (some g)) (.inl rfl) _
theorem drawn_put {w : World} {g B : Nat} {A : Option Addr} {c : Nat} {bs : List Int} {i h : Int} (hC : Cur w g B A c bs) (hk : w.heap[g]? = some (.cells #[.slice A bs.length c, .int .i64 i, .int .i64 h] 145 (0, 0))) (j : Int) (m : Nat) (h0 : 0 ≤ j) (h1 : j ≤ bs.length) :
    Cur ((w.drewN m).setCell ⟨g, 1, none⟩ (.int .i64 j)) g B A c bs :=
  cur_of hC (drawn_only w g m _) h0 h1 (by simpa using blk_set (show (w.drewN m).heap[g]? = _ from hk) 1 (.int .i64 j))
set_option maxHeartbeats 1600000 in
theorem s_l01Byte (g B : Nat) (A : Option Addr) (c : Nat) (bs : List Int) (w : World) (hC : Cur w g B A c bs) : Calls Try.prog 184 #[.pointer (some ⟨g, 0, none⟩)] w (Drawn 256 g B A c bs w) := by
  have hnb := hC.code.nb
  obtain ⟨i, h, h0, h1, hk⟩ := hC.blk
  obtain ⟨n, rfl⟩ : ∃ n : Nat, i = n := ⟨i.toNat, by omega⟩
  obtain ⟨hx0, hx1, hx2, hxl⟩ := blk3 hk
  have hf2 := (blk_cells hk 2).2
  by_cases hlt : n < bs.length
  · obtain ⟨ad, rfl, hab, hcd, hb0, hb1⟩ := hC.code.at_ hlt
    go_enter Try.func184, Try.ntmps184
    go_wp2
    obtain ⟨H, hH⟩ : ∃ H, H = wrap64 (wrap64 (h * 6364136223846793005) + 1442695040888963407) := ⟨_, rfl⟩
    rw [← hH]
    clear hH hx0 hx1 hx2 hf2
    have hg1 : w.grownBy (w.setCell ⟨g, 2, none⟩ (.int .i64 H)) (some g) := only_setCell (World.grownBy.refl _ _) (.inl rfl) _
    have hk1 : (w.setCell ⟨g, 2, none⟩ (.int .i64 H)).heap[g]? = some (.cells #[.slice (some ad) bs.length c, .int .i64 n, .int .i64 H] 145 (0, 0)) := by simpa using blk_set hk 2 (.int .i64 H)
    have hC1 := cur_of hC hg1 h0 h1 hk1
    clear hC hk
    generalize w.setCell ⟨g, 2, none⟩ (.int .i64 H) = w1 at *
    obtain ⟨ad2, hq2, hab2, hcd2, _, _⟩ := hC1.code.at_ hlt
    injection hq2 with hq2
    subst hq2
    obtain ⟨hx0, hx1, hx2, hxl1⟩ := blk3 hk1
    have hf1 := (blk_cells hk1 1).2
    go_quiet (fail)
    go_wp2
    go_quiet (fail)
    go_wp2
    go_quiet (fail)
    go_wp2
    go_ret
    exact ⟨_, rfl, (and255_bd _).1, Int.lt_of_le_of_lt (and255_bd _).2 (by decide), drawn_put hC1 hk1 (n + 1) _ (by omega) (by omega), only_trans hg1 (drawn_only _ _ _ _)⟩
  · have hne : n = bs.length := by omega
    subst hne
    go_enter Try.func184, Try.ntmps184
    go_wp2
    obtain ⟨H, hH⟩ : ∃ H, H = wrap64 (wrap64 (h * 6364136223846793005) + 1442695040888963407) := ⟨_, rfl⟩
    rw [← hH]
    clear hH hx0 hx1 hx2 hf2
    have hg1 : w.grownBy (w.setCell ⟨g, 2, none⟩ (.int .i64 H)) (some g) := only_setCell (World.grownBy.refl _ _) (.inl rfl) _
    have hk1 : (w.setCell ⟨g, 2, none⟩ (.int .i64 H)).heap[g]? = some (.cells #[.slice A bs.length c, .int .i64 bs.length, .int .i64 H] 145 (0, 0)) := by simpa using blk_set hk 2 (.int .i64 H)
    have hC1 := cur_of hC hg1 h0 h1 hk1
    clear hC hk
    generalize w.setCell ⟨g, 2, none⟩ (.int .i64 H) = w1 at *
    obtain ⟨hx0, hx1, hx2, hxl1⟩ := blk3 hk1
    go_quiet (fail)
    go_wp2
    go_quiet (fail)
    go_wp2
    go_ret
    exact ⟨_, rfl, (and255_bd _).1, Int.lt_of_le_of_lt (and255_bd _).2 (by decide), (hC1.drewN _).drewN _, ⟨hg1.os, hg1.tape, hg1.output, hg1.size, hg1.block⟩⟩
set_option maxHeartbeats 800000 in
theorem s_l01Below (n : Int) (g B : Nat) (A : Option Addr) (c : Nat) (bs : List Int) (w : World) (hC : Cur w g B A c bs) (h0 : 1 ≤ n) (h1 : n ≤ 256) : Calls Try.prog 142 #[.pointer (some ⟨g, 0, none⟩), .int .i64 n] w (Drawn n g B A c bs w) := by
  go_enter Try.func142, Try.ntmps142
  go_wp2_with fail
  refine (s_l01Byte g B A c bs w hC).mono ?_
  rintro e w1 ⟨x, rfl, hx0, hx1, hC1, hg1⟩
  have hnz : ¬ n = 0 := by omega
  go_wp2
  go_ret
  exact ⟨_, rfl, Int.emod_nonneg _ (by omega), Int.emod_lt_of_pos _ (by omega), hC1, hg1⟩
set_option maxRecDepth 100000 in
set_option maxHeartbeats 1600000 in
theorem s_l01New (B : Nat) (A : Option Addr) (c : Nat) (bs : List Int) (w : World) (hK : Code w B A bs) (hB : B ≤ w.heap.size) :
    Calls Try.prog 78 #[.slice A bs.length c] w fun e w' => e = .returned (.pointer (some ⟨w.heap.size, 0, none⟩)) ∧ Cur w' w.heap.size B A c bs ∧ Below w.heap.size w w' := by
  have hnb := hK.nb
  obtain ⟨n, hn⟩ : ∃ n, bs.length = n := ⟨_, rfl⟩
  have HN := Lib.hid hn
  rw [hn] at hnb ⊢
  clear hn
  go_enter Try.func78, Try.ntmps78
  go_wp2
  go_loopw [3, 4] (fun h i wr => ∃ (j m : Nat) (H : Int), j ≤ n ∧ i = .int .i64 j ∧ h = .int .i64 H ∧ wr = w.drewN m) (fun _ i _ => n - (intOf i).toNat)
  case atStart => exact ⟨0, 0, _, Nat.zero_le _, rfl, rfl, rfl⟩
  case round =>
    obtain ⟨j, m, H, hj, rfl, rfl, rfl⟩ := hrel
    by_cases hlt : j < n
    · by_cases h4 : j < 4000
      · obtain ⟨ad, rfl, hab, hcd, hb0, hb1⟩ := hK.at_ (k := j) (by have := HN.out; omega)
        go_wp2
        go_roundw
        case rel => exact ⟨j + 1, _, _, by omega, by go_num, rfl, rfl⟩
        case measure => simp [intOf]; omega
      · go_wp2
        go_ret
        have hn := HN.out
        subst hn
        refine ⟨rfl, ⟨⟨hK.rd.alloc hB _, hK.nb, hK.bd⟩, hB, 0, H, by omega, by omega, ?_⟩, bel⟩
        exact blk_new _ _
    · go_wp2
      go_ret
      have hn := HN.out
      subst hn
      refine ⟨rfl, ⟨⟨hK.rd.alloc hB _, hK.nb, hK.bd⟩, hB, 0, H, by omega, by omega, ?_⟩, bel⟩
      exact blk_new _ _
set_option maxHeartbeats 800000 in
theorem s_l01Once (n : Int) (g B : Nat) (A : Option Addr) (c : Nat) (bs : List Int) (w : World) (hC : Cur w g B A c bs) (h0 : 1 ≤ n) (h1 : n ≤ 256) : Calls Try.prog 104 #[.pointer (some ⟨g, 0, none⟩), .int .i64 n] w fun e w' => ∃ b : Bool, e = .returned (.bool b) ∧ Cur w' g B A c bs ∧ w.grownBy w' (some g) := by
  go_enter Try.func104, Try.ntmps104
  go_wp2_with fail
  refine (s_l01Below n g B A c bs w hC h0 h1).mono ?_
  rintro e w1 ⟨x, rfl, hx0, hx1, hC1, hg1⟩
  go_wp2
  go_ret
  exact ⟨_, rfl, hC1, hg1⟩
end Go.Proofs.Yteffbjddgdjkmaa
