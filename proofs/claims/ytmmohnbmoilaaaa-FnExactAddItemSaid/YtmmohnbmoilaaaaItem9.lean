/- slices.Delete of one item from a row of items of one's own. -/
import Derived.Test.YtmmohnbmoilaaaaMem3
import Derived.Test.YtmmohnbmoilaaaaItem8
import Derived.Lib.SlicesDelete
import Derived.Lib.SliceRun
import Derived.Deep.RegionLaw
import Derived.Deep.LoopGhost
import Derived.WalkKit
namespace Go.Proofs.Ytmmohnbmoilaaaa
open Go.ChangeShapes Go.WideShapes Go.ChangeAt Go.RowKit Go.Lib
set_option linter.unusedVariables false
set_option maxRecDepth 10000

theorem flat_drop {α : Type} {f : α → List Value} {k : Nat} (hf : ∀ x, (f x).length = k) (l : List α) (i : Nat) (hi : i ≤ l.length) : (l.flatMap f).drop (i * k) = (l.drop i).flatMap f := by
  have h1 : l.flatMap f = (l.take i).flatMap f ++ (l.drop i).flatMap f := by rw [← List.flatMap_append, List.take_append_drop]
  have h2 : ((l.take i).flatMap f).length = i * k := by rw [flat_len hf, List.length_take, Nat.min_eq_left hi]
  rw [h1, ← h2, List.drop_left]
theorem run_clear_sliceG {P : Program} (w : World) (t e ty : TypeId) (z : Value) (ZS : List Value) (ht : P.underlying t = some (.slice e)) (hv : ∀ w, (zeroValue e).run P w = .ok z w) (b o n c : Nat) (hn : 0 < n)
    (hz : (Builtin.zeroCells z.cells n).toList = ZS) (h1 : ∀ v ∈ ZS, v.oneCell' = true)
    (hc : ∀ j, j < ZS.length → (w.cell? ⟨b, o + j, none⟩).isSome = true) (hf : ∀ j, j < ZS.length → w.frozen? ⟨b, o + j, none⟩ = false) :
    (Builtin.clear_ #[t] ty #[.slice (some ⟨b, o, none⟩) n c]).run P w = .ok (.tuple #[]) (w.setCells b o ZS) := by
  have hst := run_storeCells_cells (P := P) b o ZS 0 w (by simpa using hc) (by simpa using hf) h1
  simp only [Nat.add_zero] at hst
  obtain ⟨m, rfl⟩ : ∃ m, n = m + 1 := ⟨n - 1, by omega⟩
  simp [Builtin.clear_, run_underlying ht, hv, hz, hst]
/-- what is left when one element is taken out and its place behind the row is made empty -/
theorem lay_del {xs zs : List Value} {k n size : Nat} (hx : xs.length = n * size) (hk : k < n) :
    (((xs.take (k * size) ++ (xs.drop ((k + 1) * size) ++ xs.drop (k * size + (xs.drop ((k + 1) * size)).length))).take ((n - 1) * size)) ++ zs).take ((n - 1) * size) = xs.take (k * size) ++ xs.drop ((k + 1) * size) := by
  have h1 : (k + 1) * size ≤ n * size := Nat.mul_le_mul_right _ hk
  have h2 : (k + 1) * size = k * size + size := by rw [Nat.succ_mul]
  have h3 : n * size = (n - 1) * size + size := by rw [← Nat.succ_mul]; congr 1; omega
  have hl : (xs.take (k * size) ++ xs.drop ((k + 1) * size)).length = (n - 1) * size := by rw [List.length_append, List.length_take, List.length_drop]; omega
  have hT : (xs.take (k * size) ++ (xs.drop ((k + 1) * size) ++ xs.drop (k * size + (xs.drop ((k + 1) * size)).length))).take ((n - 1) * size) = xs.take (k * size) ++ xs.drop ((k + 1) * size) := by
    rw [← List.append_assoc, List.take_append_of_le_length (Nat.le_of_eq hl.symm), List.take_of_length_le (Nat.le_of_eq hl)]
  rw [hT, List.take_append_of_le_length (Nat.le_of_eq hl.symm), List.take_of_length_le (Nat.le_of_eq hl)]
theorem OwnItems.erase {w w' : World} {lo n c m c' : Nat} {A A' : Option Addr} {L L' : List RItem} (ho : OwnItems w lo w.heap.size A n c L)
    (hg : w.grownBy w' (Value.slice A n c).ownBlock) (h2 : w'.ownsRow lo 60 4 (.slice A' m c') m (L'.flatMap itemCells)) (hs : List.Sublist L' L) :
    OwnItems w' lo w'.heap.size A' m c' L' := by
  refine ⟨h2, fun k hk => (h2.lt k hk).2, fun s hs' => ?_, ho.apart.sublist hs⟩
  have hq := ho.in_ s (hs.subset hs')
  exact ⟨own_grown hq.row hg (fun k hk => by
      intro he
      exact own_ne_type hq.row ho.row (by decide) k hk he), fun k hk => by have h1 := hq.top k hk; have h2 := hg.size; omega⟩
theorem sub_erase {α : Type} (L : List α) (k : Nat) : List.Sublist (L.take k ++ L.drop (k + 1)) L := by
  have h : L.take k ++ L.drop k = L := List.take_append_drop k L
  have h2 : List.Sublist (L.drop (k + 1)) (L.drop k) := by
    rw [show k + 1 = k + 1 from rfl, ← List.drop_drop]; exact List.drop_sublist _ _
  calc List.Sublist (L.take k ++ L.drop (k + 1)) (L.take k ++ L.drop k) := (List.Sublist.refl _).append h2
    _ = L := h

set_option maxHeartbeats 4000000 in
set_option maxRecDepth 1000000 in
theorem del_item (base g n c k j : Nat) (L : List RItem) (w : World) (hO : w.ownsRow base 60 4 (.slice (some ⟨g, 0, none⟩) n c) n (L.flatMap itemCells)) (hk : k < n) (hj : j = k + 1) (hn : n ≤ 16777216) :
    Calls Try.prog 112 #[.slice (some ⟨g, 0, none⟩) n c, .int .i64 k, .int .i64 j] w fun e w' => e = .returned (.slice (some ⟨g, 0, none⟩) (n - 1) c) ∧
      w'.ownsRow base 60 4 (.slice (some ⟨g, 0, none⟩) (n - 1) c) (n - 1) ((L.take k ++ L.drop j).flatMap itemCells) ∧ w.grownBy w' (some g) := by
  have hxl : (L.flatMap itemCells).length = n * 4 := hO.1
  have hLl : L.length = n := by rw [flat_len itemCells_len] at hxl; omega
  obtain ⟨hnc, hc63⟩ := own_capG hO
  obtain ⟨cur, hblk, hcs, hcm, hbg⟩ := own_block hO
  have hglt := blk_lt hblk
  have hdrop := flat_drop itemCells_len L j (by omega)
  have htake := flat_take itemCells_len L k
  have hone := itemCells_one (L.drop j)
  rw [List.flatMap_append, ← htake, ← hdrop]
  rw [← hdrop] at hone
  clear hdrop htake
  generalize L.flatMap itemCells = xs at *
  obtain ⟨news, hnews⟩ : ∃ news, news = xs.drop (j * 4) := ⟨_, rfl⟩
  have hlen : news.length = (n - j) * 4 := by rw [hnews, List.length_drop]; omega
  have hget : ∀ t u, news[t]? = some u → w.drew.cell? ⟨g, j * 4 + t, none⟩ = some u := by
    intro t u hu
    have ht := (List.getElem?_eq_some_iff.1 hu).1
    rw [hnews, List.getElem?_drop] at hu
    exact (hO.cellAt _ (by omega)).trans hu
  obtain ⟨AD, hA, hsrc⟩ : ∃ AD : Addr, (if c = j then some (⟨g, 0, none⟩ : Addr) else some ⟨g, j * 4, none⟩) = some AD ∧ Hid (∀ t u, news[t]? = some u → w.drew.cell? (AD.add t) = some u) := by
    by_cases h : c = j
    · refine ⟨⟨g, 0, none⟩, by simp [h], fun t u hu => ?_⟩
      have h0 : news.length = 0 := by rw [hlen]; omega
      rw [List.length_eq_zero_iff.1 h0] at hu
      simp at hu
    · refine ⟨⟨g, j * 4, none⟩, by simp [h], fun t u hu => ?_⟩
      rw [Addr.add_lit]
      exact hget t u hu
  have s1 : Hid (news.length = (n - j) * 4) := hlen
  have s2 : Hid (∀ u ∈ news, u.oneCell' = true) := by rw [hnews]; exact hone
  have s3 : Hid (∀ t, t < news.length → (w.drew.cell? ⟨g, 0 + k * 4 + t, none⟩).isSome = true ∧ w.drew.frozen? ⟨g, 0 + k * 4 + t, none⟩ = false) := by
    intro t ht
    refine ⟨?_, hO.frozenAt _⟩
    show (w.cell? _).isSome = true
    rw [hO.cellAt _ (by omega), List.getElem?_eq_getElem (by omega)]; rfl
  obtain ⟨W1, hW1⟩ : ∃ W1, W1 = w.drew.setCells g (0 + k * 4) news := ⟨_, rfl⟩
  have h1 := own_setCellsG news (0 + k * 4) w.drew xs hO.drew (by omega)
  rw [← hW1] at h1
  have h2 := own_setCellsG [.string ByteArray.empty, .int .i64 0, .int .i64 0, .slice none 0 0] ((n - 1) * 4) W1 _ h1.1 (by simp; omega)
  have hcl : ∀ ty, (Builtin.clear_ #[55] ty #[.slice (some ⟨g, (k + (n - j)) * 4, none⟩) (n - (k + (n - j))) (c - (k + (n - j)))]).run Try.prog W1 = .ok (.tuple #[]) (W1.setCells g ((n - 1) * 4) [.string ByteArray.empty, .int .i64 0, .int .i64 0, .slice none 0 0]) := by
    intro ty
    rw [show k + (n - j) = n - 1 by omega, show n - (n - 1) = 1 by omega]
    refine run_clear_sliceG W1 _ _ ty _ _ Try.underlying55 Try.zeroValue60 g _ 1 _ (by omega) (by kernel_rfl) (by intro v hv; simp at hv; rcases hv with rfl | rfl | rfl | rfl <;> rfl) (fun j hj => ?_) (fun j _ => h1.1.frozenAt _)
    simp at hj
    rw [h1.1.cellAt _ (by omega), List.getElem?_eq_getElem (by have := h1.1.1; omega)]; rfl
  have hgr : w.grownBy (W1.setCells g ((n - 1) * 4) [.string ByteArray.empty, .int .i64 0, .int .i64 0, .slice none 0 0]) (some g) := only_trans (only_trans (grown_drewN w 1 _) h1.2) h2.2
  have hrow := own_prefixG h2.1 (m := n - 1) (by omega)
  rw [hnews, hj, Nat.zero_add, lay_del hxl hk, ← hj, ← hnews] at hrow
  obtain ⟨i0, hi0, hz0, hz1i, hz2⟩ := info_parts info_itemCells
  have hjc : j ≤ c := by omega
  have hic : k ≤ c := by omega
  have hjn : j ≤ n := by omega
  have hkj : k ≤ j := by omega
  have hkj2 : ¬ k = j := by omega
  have hsum : k + (n - j) = n - 1 := by omega
  have mixed : Try.prog.follows Departure.mixedOrders = true := by kernel_rfl
  have hW : Hid (W1 = w.drew.setCells g (0 + k * 4) news) := hW1
  have HROW := Lib.hid hrow
  have HGR := Lib.hid hgr
  have HSUM := Lib.hid hsum
  clear hW1 h1 h2 hget hone hxl hLl hlen hcs hblk hrow hgr hO hj hsum
  go_enter Try.func112, Try.ntmps112
  go_wp2_with fail
  go_region_law_o (refine step_append_room rfl (.tmp 22) (.tmp 25) 55 rfl 60 i0 4 Try.underlying55 hi0 hz1i g 0 k c (by simp [Act.eval, Act.put]) AD (n - j) (c - j) news (by simp [Act.eval, Act.put]) s1.out hsrc.out s2.out (by omega) s3.out ?_; rw [← hW.out])
  go_wp2
  go_ret
  refine ⟨?_, ?_, ?_⟩
  · rw [← HSUM.out]; rfl
  · rw [← hnews]; exact HROW.out
  · exact HGR.out
end Go.Proofs.Ytmmohnbmoilaaaa
