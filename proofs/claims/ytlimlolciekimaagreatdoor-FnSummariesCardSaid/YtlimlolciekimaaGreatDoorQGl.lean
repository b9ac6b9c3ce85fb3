/- Contracts of the program's and the reference's functions (Item7, Item8, Item9, Ins2, Item10, Item12, Item11, Item14). -/
import Derived.BigQuiet
import Derived.Deep.DeepCutAuto
import Derived.Deep.LoopGhost
import Derived.Deep.QuietTactic
import Derived.Deep.RegionHeld3
import Derived.Deep.RegionLaw
import Derived.Lib.SliceRun
import Derived.Lib.SlicesDelete
import Derived.Shelf.Spec.SlicesInsertGrow
import Derived.WalkKit
import Derived.Test.YtlimlolciekimaaGreatDoorRows
import Derived.Test.YtlimlolciekimaaGreatDoorQGa
import Derived.Test.YtlimlolciekimaaGreatDoorQGk
import Derived.Test.YtlimlolciekimaaGreatDoorQGi
import Derived.Test.YtlimlolciekimaaGreatDoorQGb
namespace Go.Proofs.YtlimlolciekimaaGreatDoor
open Go.ChangeShapes Go.WideShapes Go.ChangeAt Go.RowKit
set_option linter.unusedVariables false
set_option maxRecDepth 10000
def idxNm (P : List PItem) (name : ByteArray) : Option Nat := P.findIdx? fun x => decide (x.nm = name)
def noNm (P : List PItem) (name : ByteArray) (j : Nat) : Prop := ∀ i, i < j → ∀ x, P[i]? = some x → x.nm ≠ name
def idxI (P : List PItem) (name : ByteArray) : Int := match idxNm P name with | some k => k | none => -1
def named (P : List PItem) (name : ByteArray) : (Int × Int) × (List ByteArray × Bool) :=
  if catOk P = true then match idxNm P name with | some k => (match P[k]? with | some x => ((x.d, x.f), (x.ss, true)) | none => ((0, 0), ([], false))) | none => ((0, 0), ([], false)) else ((0, 0), ([], false))
end Go.Proofs.YtlimlolciekimaaGreatDoor
namespace Go.Proofs.YtlimlolciekimaaGreatDoor
open Go.ChangeShapes Go.WideShapes Go.ChangeAt Go.RowKit
set_option linter.unusedVariables false
set_option maxRecDepth 10000
def dropped (P : List PItem) (name : ByteArray) : List PItem × Bool :=
  if catOk P = true then match idxNm P name with | some k => (P.take k ++ P.drop (k + 1), true) | none => (P, false) else (P, false)
def UItemsB (P : List PItem) (b : Bool) (w : World) (e : Ending) (w' : World) : Prop :=
  ∃ A c L, e = .returned (.tuple #[.slice A P.length c, .bool b]) ∧ plI L = P ∧ OwnItems w' w.heap.size w'.heap.size A P.length c L ∧ Below w.heap.size w w'
theorem uitemsB_cast {P : List PItem} {b : Bool} {q : List PItem × Bool} {w w' : World} {e : Ending} (h : q = (P, b)) (hu : UItemsB P b w e w') : UItemsB q.1 q.2 w e w' := by subst h; exact hu
end Go.Proofs.YtlimlolciekimaaGreatDoor
namespace Go.Proofs.YtlimlolciekimaaGreatDoor
open Go.ChangeShapes Go.WideShapes Go.ChangeAt Go.RowKit
set_option linter.unusedVariables false
set_option maxRecDepth 10000
def nmLt (a b : ByteArray) : Bool := Op.bytesLess a.toList b.toList
def posOf : List PItem → ByteArray → Nat
  | [], _ => 0
  | x :: l, nm => if nmLt x.nm nm = true then posOf l nm + 1 else 0
def allLt (P : List PItem) (nm : ByteArray) (j : Nat) : Prop := ∀ i, i < j → ∀ x, P[i]? = some x → nmLt x.nm nm = true
theorem allLt_zero (P : List PItem) (nm : ByteArray) : allLt P nm 0 := fun i hi => absurd hi (by omega)
theorem allLt_succ {P : List PItem} {nm : ByteArray} {j : Nat} {x : PItem} (h : allLt P nm j) (hx : P[j]? = some x) (hn : nmLt x.nm nm = true) : allLt P nm (j + 1) := by
  intro i hi y hy
  by_cases hij : i = j
  · subst hij; rw [hx] at hy; injection hy with hy; subst hy; exact hn
  · exact h i (by omega) y hy
theorem posOf_at : ∀ (P : List PItem) (nm : ByteArray) (j : Nat), allLt P nm j → j ≤ P.length → (∀ x, P[j]? = some x → nmLt x.nm nm = false) → posOf P nm = j
  | [], nm, j, _, hj, _ => by simp at hj; subst hj; rfl
  | x :: l, nm, 0, _, _, hx => by
    have h := hx x rfl
    unfold posOf
    rw [h]; rfl
  | x :: l, nm, j + 1, ha, hj, hx => by
    have h := ha 0 (by omega) x rfl
    unfold posOf
    rw [if_pos h, posOf_at l nm j (fun i hi y hy => ha (i + 1) (by omega) y (by simpa using hy)) (by simpa using hj) (fun y hy => hx y (by simpa using hy))]
def insP (P : List PItem) (x : PItem) (j : Nat) : List PItem := P.take j ++ x :: P.drop j
theorem insP_len (P : List PItem) (x : PItem) (j : Nat) (h : j ≤ P.length) : (insP P x j).length = P.length + 1 := by
  unfold insP; rw [List.length_append, List.length_cons, List.length_take, List.length_drop]; omega
theorem insP_mem {P : List PItem} {x y : PItem} {j : Nat} (h : y ∈ insP P x j) : y = x ∨ y ∈ P := by
  rcases List.mem_append.1 h with h | h
  · exact .inr (List.mem_of_mem_take h)
  · rcases List.mem_cons.1 h with h | h
    · exact .inl h
    · exact .inr (List.mem_of_mem_drop h)
def added (P : List PItem) (x : PItem) : List PItem × Bool :=
  if catOk P = true then if catOk (insP P x (posOf P x.nm)) = true then (insP P x (posOf P x.nm), true) else (P, false) else (P, false)
theorem added_no1 {P : List PItem} {x : PItem} (h : catOk P = false) : added P x = (P, false) := by unfold added; rw [h]; rfl
theorem added_no2 {P : List PItem} {x : PItem} {j : Nat} (hj : posOf P x.nm = j) (h : catOk (insP P x j) = false) : added P x = (P, false) := by unfold added; rw [hj, h]; split <;> rfl
theorem added_yes {P : List PItem} {x : PItem} {j : Nat} (hj : posOf P x.nm = j) (hc : catOk P = true) (h : catOk (insP P x j) = true) : added P x = (insP P x j, true) := by unfold added; rw [hj, h, hc]; rfl
theorem catOk_len {P : List PItem} (h : catOk P = true) : P.length ≤ 20 := by
  unfold catOk at h
  simp only [Bool.and_eq_true, decide_eq_true_eq] at h
  exact h.2
theorem added_ok (P : List PItem) (x : PItem) (m : Nat) (h : OkItems P m) (hx : x.ss.length ≤ m ∧ (∀ s ∈ x.ss, s.size ≤ 16777216) ∧ x.nm.size ≤ 16777216) (hm : 20 ≤ m) : OkItems (added P x).1 m := by
  unfold added
  split
  · split
    · rename_i hc hq
      refine ⟨Nat.le_trans (catOk_len hq) hm, fun y hy => ?_⟩
      rcases insP_mem hy with rfl | hy
      · exact hx
      · exact h.2 y hy
    · exact h
  · exact h
theorem insP_ok {P : List PItem} {x : PItem} {j : Nat} (h : OkItems P 16777216) (hn : P.length ≤ 16777215) (hx : x.ss.length ≤ 16777216 ∧ (∀ s ∈ x.ss, s.size ≤ 16777216) ∧ x.nm.size ≤ 16777216) (hj : j ≤ P.length) : OkItems (insP P x j) 16777216 := by
  refine ⟨by rw [insP_len _ _ _ hj]; omega, fun y hy => ?_⟩
  rcases insP_mem hy with rfl | hy
  · exact hx
  · exact h.2 y hy
end Go.Proofs.YtlimlolciekimaaGreatDoor
namespace Go.Proofs.YtlimlolciekimaaGreatDoor
open Go.ChangeShapes Go.WideShapes Go.ChangeAt Go.RowKit
set_option linter.unusedVariables false
set_option maxRecDepth 10000
section
variable {P : Program} (w : World)
theorem step_append_G {ops : Array Oper} {o : Oper} {a : Act} {K : Act → World → Prop} {Q : Exit → Act → World → Prop} {E : Prop} (hgd : o.guard = none) (s x : Operand) (t : TypeId)
    (ho : o.op = .call { callee := .builtin .append, args := #[s, x], argTypes := #[t, t] })
    (base : Nat) (e : TypeId) (i : TypeInfo) (z : Value) (size bytes : Nat) (ht : P.underlying t = some (.slice e)) (hi : P.info? e = some i) (hz : i.zero = some z)
    (hsize : i.size = size) (hby : i.bytes = bytes) (hzs : z.cells.size = size) (hsz : 0 < size)
    (v : Value) (n : Nat) (xs : List Value) (hs : a.eval s = v) (hown : w.ownsRow base e size v n xs)
    (B : Nat) (A : Option Addr) (m c : Nat) (news : List Value) (hx : a.eval x = .slice A m c) (hr : Reads w B size A m news) (h1 : ∀ u ∈ news, u.oneCell' = true)
    (h63 : n + m ≤ maxLen) (hbytes : (n + m) * bytes ≤ 140737488355328) (hbase : base ≤ w.heap.size)
    (N : Nat) (ys : List Value) (hN : n + m = N) (hys : xs ++ news = ys)
    (h : ∀ A' c' w', w'.ownsRow base e size (.slice A' N c') N ys → w.grownBy w' v.ownBlock → (∀ k, (Value.slice A' N c').ownBlock = some k → v.ownBlock = some k ∨ k = w.heap.size) → K (a.put o.dst (.slice A' N c')) w') :
    if Region.wanted o (yielded ops a.tmps) = true then Oper.wp P o a w K Q else E := by
  refine step_append_any w hgd s x t ho base e i z size bytes ht hi hz hsize hby hzs hsz v n xs hs hown B A m c news hx hr h1 h63 hbytes hbase ?_
  subst hN; subst hys
  intro v' w' h2 hg hv
  obtain ⟨A', c', rfl⟩ := own_slice h2
  refine h A' c' w' h2 hg fun k hk => ?_
  rcases hv with hv | hv
  · exact .inl (hv.symm.trans hk)
  · rw [hk] at hv; injection hv with hv; exact .inr hv
end
theorem s_l35CopyN (B : Nat) (A : Option Addr) (n c : Nat) (L : List RItem) (w : World) (hS : Items w B A n L) (hB : B ≤ w.heap.size) :
    Calls Tryz.prog 173 #[.slice A n c] w fun e w' => ∃ A' c' L', e = .returned (.slice A' n c') ∧ plI L' = plI L ∧ OwnItems w' w.heap.size w'.heap.size A' n c' L' ∧ Below w.heap.size w w' := by
  have hl : (plI L).length = n := by rw [plI_len, hS.len]
  refine (u_l35Copy (plI L) B A n c L w rfl hS hB).mono ?_
  rintro e w' ⟨A', c', L', h1, h2, h3, h4⟩
  rw [hl] at h1 h3
  exact ⟨A', c', L', h1, h2, h3, h4⟩
end Go.Proofs.YtlimlolciekimaaGreatDoor
namespace Go.Proofs.YtlimlolciekimaaGreatDoor
open Go.ChangeShapes Go.WideShapes Go.ChangeAt Go.RowKit
set_option linter.unusedVariables false
set_option linter.unusedSimpArgs false
set_option maxRecDepth 10000
theorem OwnItems.join2 {w w' : World} {lo hi lo2 hi2 n c m c2 N c' : Nat} {A A2 A' : Option Addr} {L M : List RItem} (ho : OwnItems w lo hi A n c L) (ho2 : OwnItems w lo2 hi2 A2 m c2 M) (hle : lo ≤ lo2) (hm : hi ≤ w.heap.size) (hm2 : hi2 ≤ w.heap.size)
    (hap : ∀ a ∈ L, ∀ b ∈ M, ∀ k, a.v.ownBlock = some k → b.v.ownBlock ≠ some k)
    (hg : w.grownBy w' (Value.slice A n c).ownBlock) (h2 : w'.ownsRow lo 65 4 (.slice A' N c') N (L.flatMap itemCells ++ M.flatMap itemCells)) : OwnItems w' lo w'.heap.size A' N c' (L ++ M) := by
  have key : ∀ s : RItem, OwnS w lo w.heap.size s.A s.c s.x.ss → OwnS w' lo w'.heap.size s.A s.c s.x.ss := fun s hs =>
    ⟨own_grown hs.row hg (fun k hk => by
      intro he
      exact own_ne_type hs.row ho.row (by decide) k hk he), fun k hk => by have h1 := hs.top k hk; have h2 := hg.size; omega⟩
  refine ⟨by rw [List.flatMap_append]; exact h2, fun k hk => (h2.lt k hk).2, fun s hs => ?_, ?_⟩
  · rcases List.mem_append.1 hs with h | h
    · exact key s ((ho.in_ s h).wide (Nat.le_refl _) hm)
    · exact key s ((ho2.in_ s h).wide hle hm2)
  · rw [List.pairwise_append]
    exact ⟨ho.apart, ho2.apart, hap⟩
theorem OwnItems.append_in {w w' : World} {lo mid hi n c c' : Nat} {A A' : Option Addr} {L : List RItem} {r : RItem} (ho : OwnItems w lo mid A n c L) (hr : OwnS w mid hi r.A r.c r.x.ss) (h1 : lo ≤ mid) (h2 : mid ≤ w.heap.size) (h3 : hi ≤ w.heap.size)
    (hg : w.grownBy w' (Value.slice A n c).ownBlock) (h4 : w'.ownsRow lo 65 4 (.slice A' (n + 1) c') (n + 1) (L.flatMap itemCells ++ itemCells r)) : OwnItems w' lo w'.heap.size A' (n + 1) c' (L ++ [r]) :=
  (ho.wide (Nat.le_refl _) h2).append (hr.wide h1 h3) (fun s hs k hk hk2 => by have q1 := (ho.in_ s hs).top k hk; have q2 := (hr.row.lt k hk2).1; omega) hg h4
theorem reads_blk4 {W : World} {p : Nat} {t : TypeId} {r : RItem} (h : W.heap[p]? = some (.cells #[.string r.x.nm, .int .i64 r.x.d, .int .i64 r.x.f, .slice r.A r.x.ss.length r.c] t (0, 0))) : Reads W (p + 1) 4 (some ⟨p, 0, none⟩) 1 (itemCells r) :=
  ⟨rfl, fun _ => ⟨_, rfl, by show p < p + 1; omega, fun j v hj => by
    have hc := (blk_cells h j).1
    rw [Addr.add_lit, Nat.zero_add, hc]
    simpa [itemCells] using hj⟩⟩
theorem Reads.of_own' {w : World} {base e size n c B : Nat} {A : Option Addr} {xs : List Value} (h : w.ownsRow base e size (.slice A n c) n xs) (hB : w.heap.size ≤ B) : Reads w B size A n xs := (Reads.of_own h).more hB
set_option maxHeartbeats 6400000 in
theorem s_AddItem (nm : ByteArray) (d f : Int) (Ax : Option Addr) (cx : Nat) (ss : List ByteArray) (P : List PItem) (B : Nat) (A : Option Addr) (n c : Nat) (L : List RItem) (w : World) (hp : plI L = P) (hS : Items w B A n L) (hX : Strs w B Ax ss.length ss) (hnms : nm.size ≤ 16777216) (hB : B ≤ w.heap.size) (hn2 : n ≤ 16777215) (hnc : n ≤ c) (hc63 : c ≤ 9223372036854775807) (hA0 : A = none → c = 0) :
    Calls Tryz.prog 185 #[.slice A n c, .agg #[.string nm, .int .i64 d, .int .i64 f, .slice Ax ss.length cx]] w (UItemsB (added P (PItem.mk nm d f ss)).1 (added P (PItem.mk nm d f ss)).2 w) := by
  have hn := hS.nb
  have hl : P.length = n := by rw [← hp, plI_len, hS.len]
  have hpo : OkItems P 16777216 := by rw [← hp]; exact hS.ok
  have HPO := Lib.hid hpo
  have HL := Lib.hid hl
  have HP := Lib.hid hp
  obtain ⟨i0, hii, hz0, hz1, hz2⟩ := info_parts info_itemCells
  clear hl hp hpo
  have hk0 := blk_new w (.cells #[.string nm, .int .i64 d, .int .i64 f, .slice Ax ss.length cx] 65)
  cases hck : catOk P
  · have HCK := Lib.hid hck
    have HR := Lib.hid (added_no1 (x := (PItem.mk nm d f ss)) hck)
    clear hck
    go_enter Tryz.func185, Tryz.ntmps185
    go_wp2_with (first | (go_at_call 93; refine (s_CatalogOk P B _ n c L _ HP.out (hS.alloc hB _) (by simp; omega)).mono ?_; rintro e w1 ⟨rfl, hb1⟩; rw [HCK.out]; (have hbw1 : Below w.heap.size w w1 := ((Below.refl _ _).alloc (Nat.le_refl _) _).trans (hb1.mono (by simp)))) | (go_at_call 173; refine (u_l35Copy P B _ n c L _ HP.out (hS.below (hbw1.mono hB)) (Nat.le_trans hB hbw1.size)).mono ?_; rintro e w9 ⟨A9, c9, L9, rfl, hp9, ho9, hb9⟩; (have hbw9 : Below w.heap.size w w9 := hbw1.trans (hb9.mono hbw1.size))))
    refine bodyPost_ret (v := .tuple #[.slice A9 P.length c9, .bool false]) (by simp [results, Tryz.results185, go_sem, *]) rfl ?_
    exact uitemsB_cast HR.out ⟨A9, c9, L9, rfl, hp9, ho9.wide hbw1.size (Nat.le_refl _), hbw9⟩
  · have HCK := Lib.hid hck
    clear hck
    rcases A with _ | ad
    · have hc0 := hA0 rfl
      subst hc0
      have hn0 : n = 0 := by omega
      subst hn0
      clear hA0
      go_enter Tryz.func185, Tryz.ntmps185
      go_wp2_with (go_at_call 93; refine (s_CatalogOk P B _ 0 0 L _ HP.out (hS.alloc hB _) (by simp; omega)).mono ?_; rintro e w1 ⟨rfl, hb1⟩; rw [HCK.out])
      have hk1 := blk_next hk0 hb1
      have hbw1 : Below w.heap.size w w1 := ((Below.refl _ _).alloc (Nat.le_refl _) _).trans (hb1.mono (by simp))
      go_loopw [6] (fun i wr => ∃ j : Nat, j ≤ 0 ∧ i = .int .i64 j ∧ Hid (allLt P nm j) ∧ Below w1.heap.size w1 wr) (fun i _ => 0 - (intOf i).toNat)
      case atStart => exact ⟨0, Nat.zero_le _, rfl, allLt_zero _ _, Below.refl _ _⟩
      case round =>
        obtain ⟨j, hj, rfl, HN, hb⟩ := hrel
        have hkr := blk_next hk1 hb
        have hzr : w.heap.size < wr.heap.size := blk_lt hkr
        have hbw : Below w.heap.size w wr := hbw1.trans (hb.mono hbw1.size)
        obtain ⟨hx0, hx1, hx2, hx3, hxl⟩ := blk4 hkr
        have hj0 : j = 0 := by omega
        subst hj0
        have HJ : Hid (posOf P (PItem.mk nm d f ss).nm = 0) := posOf_at P nm 0 HN.out (by have := HL.out; omega) (fun x hx => by obtain ⟨h, _⟩ := List.getElem?_eq_some_iff.1 hx; have := HL.out; omega)
        have hd : decide (((0 : Nat) : Int) < (0 : Int)) = false := decide_eq_false (by omega)
        go_wp2_with fail
        go_quiet (fail)
        obtain ⟨wq, hwq⟩ : ∃ W, W = wr.drewN nq := ⟨_, rfl⟩
        have hbq0 : Below w.heap.size w wq := by rw [hwq]; exact below_drewN hbw nq
        have hkq : wq.heap[w.heap.size]? = some (.cells #[.string nm, .int .i64 d, .int .i64 f, .slice Ax ss.length cx] 65 (0, 0)) := by rw [hwq]; exact hkr
        rw [← hwq]
        clear hx0 hx1 hx2 hx3 hxl hkr hb hzr hbw hwq
        obtain ⟨hx0, hx1, hx2, hx3, hxl⟩ := blk4 hkq
        go_wp2_with fail
        have hcut0 : ∀ W : World, Items W B none 0 L → Items W B none (0 - 0) (L.drop 0) := fun W h => h
        have hSr := hS.below (hbq0.mono hB)
        have hXr := hX.below (hbq0.mono hB)
        have hwq1 := hbq0.size
        have HQL : Hid ((insP P (PItem.mk nm d f ss) 0).length = 0 + 1) := by unfold Hid; have h1 := insP_len P (PItem.mk nm d f ss) 0 (by have := HL.out; omega); have := HL.out; omega
        have HQOK : Hid (OkItems (insP P (PItem.mk nm d f ss) 0) 16777216) := insP_ok HPO.out (by have := HL.out; omega) ⟨hX.nb, hX.sb, hnms⟩ (by have := HL.out; omega)
        have HLN : Hid (0 + 1 + (0 - 0) = 0 + 1) := by unfold Hid; omega
        have tok1 : True := trivial
        have hi0 : (0 : Int) ≤ (0 : Int) := Int.natCast_nonneg _
        have hi1 : (0 : Int) ≤ (0 : Int) := by omega
        have hi4 : (0 : Int) ≤ (0 : Int) := by omega
        have hi5 : (0 : Int) ≤ (0 : Int) := by omega
        go_cut [7] (fun s7 wx => ∃ (A7 : Option Addr) (c7 : Nat) (L7 : List RItem), s7 = .slice A7 (0 + 1) c7 ∧ plI L7 = insP P (PItem.mk nm d f ss) 0 ∧ OwnItems wx wq.heap.size wx.heap.size A7 (0 + 1) c7 L7 ∧ Below wq.heap.size wq wx)
        case first =>
          go_region_held3 (fun W => (∀ b o, b < wq.heap.size → W.cell? ⟨b, o, none⟩ = (wq).cell? ⟨b, o, none⟩) ∧ (∀ b o, b < wq.heap.size → W.frozen? ⟨b, o, none⟩ = (wq).frozen? ⟨b, o, none⟩) ∧ Below (wq.heap.size) (wq) W) (exact keep_of bel) (first | (go_at_call 173; have _t := tok1; have hq := (‹_ ∧ _ ∧ Below _ _ _›).2.2; refine (s_l35CopyN B _ 0 0 (L.take 0) _ ?_ ?_).mono ?_; exact (hSr.below (hq.mono (by omega))).take hj; (first | exact Nat.le_trans (by omega) hq.size | omega); rintro e w2 ⟨A2, c2, L2, rfl, hp2, ho2, hb2⟩; clear _t tok1; have hqs2 := hq.size; have hbs2 := hb2.size; (try simp at hqs2); (try simp at hbs2); (have ho2 := ho2.wide (lo' := wq.heap.size) (hi' := w2.heap.size) (by first | exact hq.size | exact Nat.le_refl _) (Nat.le_refl _)); replace hp2 := Lib.hid hp2) | (go_at_call 181; have hq := (‹_ ∧ _ ∧ Below _ _ _›).2.2; refine (s_l05Copy d f B Ax ss.length cx ss _ ?_ ?_).mono ?_; exact hXr.below (hq.mono (by omega)); (first | exact Nat.le_trans (by omega) hq.size | omega); rintro e w3 ⟨A3, c3, rfl, ho3, hb3⟩; have hqs3 := hq.size; have hbs3 := hb3.size; (try simp at hqs3); (try simp at hbs3); (have hos3 : OwnS w3 w2.heap.size w3.heap.size A3 c3 ss := (OwnS.of ho3 (Nat.le_refl _)).wide (by first | exact Nat.le_refl _ | (simp; first | done | fail)) (Nat.le_refl _)); (have ho23 : OwnItems w3 wq.heap.size w2.heap.size A2 0 c2 L2 := (by refine OwnItems.below ?_ hb3; (focus ((repeat (first | (with_reducible exact ho2) | (with_reducible refine OwnItems.drew ?_) | (with_reducible refine OwnItems.alloc ?_ _))); (first | done | fail))))); (have HLT : Hid (∀ s ∈ L2 ++ [(⟨⟨nm, d, f, ss⟩, A3, c3⟩ : RItem)], ∀ k, s.v.ownBlock = some k → k < w3.heap.size) := (by intro s hs k hk; rcases List.mem_append.1 hs with h | h; (exact Nat.lt_of_lt_of_le ((ho23.in_ s h).top k hk) (by omega)); (have h9 := List.mem_singleton.1 h; subst h9; exact hos3.top k hk))); (have HNE : Hid (∀ s ∈ L2, ∀ k, s.v.ownBlock = some k → (Value.slice A3 ss.length c3).ownBlock ≠ some k) := (by intro s hs k hk hk2; have h1 := (ho23.in_ s hs).top k hk; have h2 := (hos3.row.lt k hk2).1; omega)); clear ho3) | (go_at_call 173; have hq := (‹_ ∧ _ ∧ Below _ _ _›).2.2; refine (s_l35CopyN B _ (0 - 0) (0 - 0) (L.drop 0) _ ?_ ?_).mono ?_; exact hcut0 _ (hSr.below (hq.mono (by omega))); (first | exact Nat.le_trans (by omega) hq.size | omega); rintro e w5 ⟨A5, c5, L5, rfl, hp5, ho5, hb5⟩; have hqs5 := hq.size; have hbs5 := hb5.size; (try simp at hqs5); (try simp at hbs5); (have HGE : Hid (∀ s ∈ L5, ∀ k, s.v.ownBlock = some k → w3.heap.size ≤ k) := (by intro s hs k hk; have h1 := ((ho5.in_ s hs).row.lt k hk).1; (try simp at h1); omega)); (have ho5 := ho5.wide (lo' := w3.heap.size) (hi' := w5.heap.size) (by first | exact Nat.le_refl _ | (simp; first | done | fail) | (simp; omega) | omega) (Nat.le_refl _)); replace hp5 := Lib.hid hp5; (have ho45 : OwnItems w5 wq.heap.size w4.heap.size A4 (0 + 1) c4 (L2 ++ [(⟨⟨nm, d, f, ss⟩, A3, c3⟩ : RItem)]) := (by refine OwnItems.below ?_ hb5; (focus ((repeat (first | (with_reducible exact ho4) | (with_reducible refine OwnItems.drew ?_) | (with_reducible refine OwnItems.alloc ?_ _))); (first | done | fail)))))) | (go_at_call 173; have hq := (‹_ ∧ _ ∧ Below _ _ _›).2.2; refine (s_l35CopyN B _ (0 - 0) (0 - 0) (L.drop 0) _ ?_ ?_).mono ?_; exact hcut0 _ (hSr.below (hq.mono (by omega))); (first | exact Nat.le_trans (by omega) hq.size | omega); rintro e w5 ⟨A5, c5, L5, rfl, hp5, ho5, hb5⟩; have hqs5 := hq.size; have hbs5 := hb5.size; (try simp at hqs5); (try simp at hbs5); (have HGE : Hid (∀ s ∈ L5, ∀ k, s.v.ownBlock = some k → w3.heap.size ≤ k) := (by intro s hs k hk; have h1 := ((ho5.in_ s hs).row.lt k hk).1; (try simp at h1); omega)); (have ho5 := ho5.wide (lo' := w3.heap.size) (hi' := w5.heap.size) (by first | exact Nat.le_refl _ | (simp; first | done | fail) | (simp; omega) | omega) (Nat.le_refl _)); replace hp5 := Lib.hid hp5; (have ho25 : OwnItems w5 wq.heap.size w2.heap.size A2 0 c2 L2 := (by refine OwnItems.below ?_ hb5; (focus ((repeat (first | (with_reducible exact ho23) | (with_reducible refine OwnItems.drew ?_) | (with_reducible refine OwnItems.alloc ?_ _))); (first | done | fail))))); (have hos5 : OwnS w5 w2.heap.size w3.heap.size A3 c3 ss := (by refine OwnS.below ?_ hb5; (focus ((repeat (first | (with_reducible exact hos3) | (with_reducible refine OwnS.drew ?_) | (with_reducible refine OwnS.alloc ?_ _))); (first | done | fail)))))) | (refine step_append_G _ rfl (.tmp 32) (.tmp 39) 30 rfl wq.heap.size 65 i0 _ 4 56 Tryz.underlying30 hii hz0 hz1 hz2 rfl (by omega) (.slice A2 0 c2) 0 (L2.flatMap itemCells) rfl ?_ (w3.heap.size + 1) (some ⟨w3.heap.size, 0, none⟩) 1 1 (itemCells (⟨⟨nm, d, f, ss⟩, A3, c3⟩ : RItem)) rfl ?_ (itemCells_one1 _) ?_ ?_ ?_ (0 + 1) (L2.flatMap itemCells ++ itemCells (⟨⟨nm, d, f, ss⟩, A3, c3⟩ : RItem)) rfl rfl ?_; (refine OwnItems.row (hi := w2.heap.size) ?_; (focus ((repeat (first | (with_reducible exact ho23) | (with_reducible refine OwnItems.drew ?_) | (with_reducible refine OwnItems.alloc ?_ _))); (first | done | fail)))); (refine reads_blk4 (t := 65) ?_; (focus ((repeat (first | (with_reducible exact blk_new_at _ _ (by first | rfl | (simp; first | done | fail))) | (with_reducible refine blk_drew ?_) | (with_reducible refine blk_alloc ?_ _))); (first | done | fail)))); (unfold maxLen; omega); omega; (have hq := (‹_ ∧ _ ∧ Below _ _ _›).2.2; first | exact hq.size | omega | (simp; omega)); intro A4 c4 w4 hr4 hg4 hq4; (have ho4 : OwnItems w4 wq.heap.size w4.heap.size A4 (0 + 1) c4 (L2 ++ [(⟨⟨nm, d, f, ss⟩, A3, c3⟩ : RItem)]) := (by refine OwnItems.append_in (r := (⟨⟨nm, d, f, ss⟩, A3, c3⟩ : RItem)) (mid := w2.heap.size) (hi := w3.heap.size) ?_ ?_ (by omega) (by first | omega | (simp; first | done | omega)) (by first | omega | (simp; first | done | omega)) hg4 hr4; (focus ((repeat (first | (with_reducible exact ho23) | (with_reducible refine OwnItems.drew ?_) | (with_reducible refine OwnItems.alloc ?_ _))); (first | done | fail))); (focus ((repeat (first | (with_reducible exact hos3) | (with_reducible refine OwnS.drew ?_) | (with_reducible refine OwnS.alloc ?_ _))); (first | done | fail))))); (have hq := (‹_ ∧ _ ∧ Below _ _ _›).2.2; have hb4 := hq.trans (grown_below (B := wq.heap.size) hg4 (fun k hk => (ho23.row.lt k hk).1) hq.size)); have hsz4 := hg4.size; (try simp at hsz4)) | (refine step_append_G _ rfl (.tmp 32) (.tmp 39) 30 rfl wq.heap.size 65 i0 _ 4 56 Tryz.underlying30 hii hz0 hz1 hz2 rfl (by omega) (.slice A2 0 c2) 0 (L2.flatMap itemCells) rfl ?_ (w5.heap.size + 1) (some ⟨w5.heap.size, 0, none⟩) 1 1 (itemCells (⟨⟨nm, d, f, ss⟩, A3, c3⟩ : RItem)) rfl ?_ (itemCells_one1 _) ?_ ?_ ?_ (0 + 1) (L2.flatMap itemCells ++ itemCells (⟨⟨nm, d, f, ss⟩, A3, c3⟩ : RItem)) rfl rfl ?_; (refine OwnItems.row (hi := w2.heap.size) ?_; (focus ((repeat (first | (with_reducible exact ho25) | (with_reducible refine OwnItems.drew ?_) | (with_reducible refine OwnItems.alloc ?_ _))); (first | done | fail)))); (refine reads_blk4 (t := 65) ?_; (focus ((repeat (first | (with_reducible exact blk_new_at _ _ (by first | rfl | (simp; first | done | fail))) | (with_reducible refine blk_drew ?_) | (with_reducible refine blk_alloc ?_ _))); (first | done | fail)))); (unfold maxLen; omega); omega; (have hq := (‹_ ∧ _ ∧ Below _ _ _›).2.2; first | exact hq.size | omega | (simp; omega)); intro A4 c4 w4 hr4 hg4 hq4; (have ho4 : OwnItems w4 wq.heap.size w4.heap.size A4 (0 + 1) c4 (L2 ++ [(⟨⟨nm, d, f, ss⟩, A3, c3⟩ : RItem)]) := (by refine OwnItems.append_in (r := (⟨⟨nm, d, f, ss⟩, A3, c3⟩ : RItem)) (mid := w2.heap.size) (hi := w3.heap.size) ?_ ?_ (by omega) (by first | omega | (simp; first | done | omega)) (by first | omega | (simp; first | done | omega)) hg4 hr4; (focus ((repeat (first | (with_reducible exact ho25) | (with_reducible refine OwnItems.drew ?_) | (with_reducible refine OwnItems.alloc ?_ _))); (first | done | fail))); (focus ((repeat (first | (with_reducible exact hos5) | (with_reducible refine OwnS.drew ?_) | (with_reducible refine OwnS.alloc ?_ _))); (first | done | fail))))); (have hq := (‹_ ∧ _ ∧ Below _ _ _›).2.2; have hb4 := hq.trans (grown_below (B := wq.heap.size) hg4 (fun k hk => (ho23.row.lt k hk).1) hq.size)); have hsz4 := hg4.size; (try simp at hsz4); (have ho54 : OwnItems w4 w3.heap.size w5.heap.size A5 (0 - 0) c5 L5 := (by refine OwnItems.grown ?_ hg4 (fun k hk => .inl (by have h1 := ho23.top k hk; omega)); (focus ((repeat (first | (with_reducible exact ho5) | (with_reducible refine OwnItems.drew ?_) | (with_reducible refine OwnItems.alloc ?_ _))); (first | done | fail)))))) | (refine step_append_G _ rfl (.tmp 32) (.tmp 39) 30 rfl wq.heap.size 65 i0 _ 4 56 Tryz.underlying30 hii hz0 hz1 hz2 rfl (by omega) (.slice A2 0 c2) 0 (L2.flatMap itemCells) rfl ?_ (w3.heap.size + 1) (some ⟨w3.heap.size, 0, none⟩) 1 1 (itemCells (⟨⟨nm, d, f, ss⟩, A3, c3⟩ : RItem)) rfl ?_ (itemCells_one1 _) ?_ ?_ ?_ (0 + 1) (L2.flatMap itemCells ++ itemCells (⟨⟨nm, d, f, ss⟩, A3, c3⟩ : RItem)) rfl rfl ?_; (refine OwnItems.row (hi := w2.heap.size) ?_; (focus ((repeat (first | (with_reducible exact ho25) | (with_reducible refine OwnItems.drew ?_) | (with_reducible refine OwnItems.alloc ?_ _))); (first | done | fail)))); (refine reads_blk4 (t := 65) ?_; (focus ((repeat (first | (with_reducible exact blk_new_at _ _ (by first | rfl | (simp; first | done | fail))) | (with_reducible refine blk_drew ?_) | (with_reducible refine blk_alloc ?_ _))); (first | done | fail)))); (unfold maxLen; omega); omega; (have hq := (‹_ ∧ _ ∧ Below _ _ _›).2.2; first | exact hq.size | omega | (simp; omega)); intro A4 c4 w4 hr4 hg4 hq4; (have ho4 : OwnItems w4 wq.heap.size w4.heap.size A4 (0 + 1) c4 (L2 ++ [(⟨⟨nm, d, f, ss⟩, A3, c3⟩ : RItem)]) := (by refine OwnItems.append_in (r := (⟨⟨nm, d, f, ss⟩, A3, c3⟩ : RItem)) (mid := w2.heap.size) (hi := w3.heap.size) ?_ ?_ (by omega) (by first | omega | (simp; first | done | omega)) (by first | omega | (simp; first | done | omega)) hg4 hr4; (focus ((repeat (first | (with_reducible exact ho25) | (with_reducible refine OwnItems.drew ?_) | (with_reducible refine OwnItems.alloc ?_ _))); (first | done | fail))); (focus ((repeat (first | (with_reducible exact hos5) | (with_reducible refine OwnS.drew ?_) | (with_reducible refine OwnS.alloc ?_ _))); (first | done | fail))))); (have hq := (‹_ ∧ _ ∧ Below _ _ _›).2.2; have hb4 := hq.trans (grown_below (B := wq.heap.size) hg4 (fun k hk => (ho23.row.lt k hk).1) hq.size)); have hsz4 := hg4.size; (try simp at hsz4); (have ho54 : OwnItems w4 w3.heap.size w5.heap.size A5 (0 - 0) c5 L5 := (by refine OwnItems.grown ?_ hg4 (fun k hk => .inl (by have h1 := ho23.top k hk; omega)); (focus ((repeat (first | (with_reducible exact ho5) | (with_reducible refine OwnItems.drew ?_) | (with_reducible refine OwnItems.alloc ?_ _))); (first | done | fail)))))) | (refine step_append_G _ rfl (.tmp 40) (.tmp 44) 30 rfl wq.heap.size 65 i0 _ 4 56 Tryz.underlying30 hii hz0 hz1 hz2 rfl (by omega) (.slice A4 (0 + 1) c4) (0 + 1) ((L2 ++ [(⟨⟨nm, d, f, ss⟩, A3, c3⟩ : RItem)]).flatMap itemCells) rfl ?_ w5.heap.size A5 (0 - 0) c5 (L5.flatMap itemCells) rfl ?_ (itemCells_one L5) ?_ ?_ ?_ (0 + 1) ((L2 ++ [(⟨⟨nm, d, f, ss⟩, A3, c3⟩ : RItem)]).flatMap itemCells ++ L5.flatMap itemCells) ?_ ?_ ?_; (refine OwnItems.row (hi := w4.heap.size) ?_; (focus ((repeat (first | (with_reducible exact ho45) | (with_reducible refine OwnItems.drew ?_) | (with_reducible refine OwnItems.alloc ?_ _))); (first | done | fail)))); (refine Reads.of_own' (c := c5) (OwnItems.row (c := c5) (lo := w3.heap.size) (hi := w5.heap.size) ?_) ?_; (focus ((repeat (first | (with_reducible exact ho5) | (with_reducible refine OwnItems.drew ?_) | (with_reducible refine OwnItems.alloc ?_ _))); (first | done | fail))); (first | exact Nat.le_refl _ | (simp; first | done | fail) | omega | (simp; omega))); (unfold maxLen; omega); omega; (have hq := (‹_ ∧ _ ∧ Below _ _ _›).2.2; first | exact hq.size | omega | (simp; omega)); (first | omega | exact HLN.out); (exact rfl); intro A6 c6 w6 hr6 hg6 hq6; (have ho6 : OwnItems w6 wq.heap.size w6.heap.size A6 (0 + 1) c6 ((L2 ++ [(⟨⟨nm, d, f, ss⟩, A3, c3⟩ : RItem)]) ++ L5) := (by refine OwnItems.join2 (A2 := A5) (m := (0 - 0)) (c2 := c5) (lo2 := w3.heap.size) (hi := w4.heap.size) (hi2 := w5.heap.size) ?_ ?_ (by omega) (by first | exact Nat.le_refl _ | omega | (simp; first | done | omega)) (by first | exact Nat.le_refl _ | omega | (simp; first | done | omega)) (fun a ha b hb k hk hk2 => by have h1 := HLT.out a ha k hk; have h2 := HGE.out b hb k hk2; omega) hg6 hr6; (focus ((repeat (first | (with_reducible exact ho45) | (with_reducible refine OwnItems.drew ?_) | (with_reducible refine OwnItems.alloc ?_ _))); (first | done | fail))); (focus ((repeat (first | (with_reducible exact ho5) | (with_reducible refine OwnItems.drew ?_) | (with_reducible refine OwnItems.alloc ?_ _))); (first | done | fail))))); (have hq := (‹_ ∧ _ ∧ Below _ _ _›).2.2; have hb6 := hq.trans (grown_below (B := wq.heap.size) hg6 (fun k hk => (ho45.row.lt k hk).1) hq.size))) | (refine step_append_G _ rfl (.tmp 40) (.tmp 44) 30 rfl wq.heap.size 65 i0 _ 4 56 Tryz.underlying30 hii hz0 hz1 hz2 rfl (by omega) (.slice A4 (0 + 1) c4) (0 + 1) ((L2 ++ [(⟨⟨nm, d, f, ss⟩, A3, c3⟩ : RItem)]).flatMap itemCells) rfl ?_ w4.heap.size A5 (0 - 0) c5 (L5.flatMap itemCells) rfl ?_ (itemCells_one L5) ?_ ?_ ?_ (0 + 1) ((L2 ++ [(⟨⟨nm, d, f, ss⟩, A3, c3⟩ : RItem)]).flatMap itemCells ++ L5.flatMap itemCells) ?_ ?_ ?_; (refine OwnItems.row (hi := w4.heap.size) ?_; (focus ((repeat (first | (with_reducible exact ho4) | (with_reducible refine OwnItems.drew ?_) | (with_reducible refine OwnItems.alloc ?_ _))); (first | done | fail)))); (refine Reads.of_own' (c := c5) (OwnItems.row (c := c5) (lo := w3.heap.size) (hi := w5.heap.size) ?_) ?_; (focus ((repeat (first | (with_reducible exact ho54) | (with_reducible refine OwnItems.drew ?_) | (with_reducible refine OwnItems.alloc ?_ _))); (first | done | fail))); (first | exact Nat.le_refl _ | (simp; first | done | fail) | omega | (simp; omega))); (unfold maxLen; omega); omega; (have hq := (‹_ ∧ _ ∧ Below _ _ _›).2.2; first | exact hq.size | omega | (simp; omega)); (first | omega | exact HLN.out); (exact rfl); intro A6 c6 w6 hr6 hg6 hq6; (have ho6 : OwnItems w6 wq.heap.size w6.heap.size A6 (0 + 1) c6 ((L2 ++ [(⟨⟨nm, d, f, ss⟩, A3, c3⟩ : RItem)]) ++ L5) := (by refine OwnItems.join2 (A2 := A5) (m := (0 - 0)) (c2 := c5) (lo2 := w3.heap.size) (hi := w4.heap.size) (hi2 := w5.heap.size) ?_ ?_ (by omega) (by first | exact Nat.le_refl _ | omega | (simp; first | done | omega)) (by first | exact Nat.le_refl _ | omega | (simp; first | done | omega)) (fun a ha b hb k hk hk2 => by have h1 := HLT.out a ha k hk; have h2 := HGE.out b hb k hk2; omega) hg6 hr6; (focus ((repeat (first | (with_reducible exact ho4) | (with_reducible refine OwnItems.drew ?_) | (with_reducible refine OwnItems.alloc ?_ _))); (first | done | fail))); (focus ((repeat (first | (with_reducible exact ho54) | (with_reducible refine OwnItems.drew ?_) | (with_reducible refine OwnItems.alloc ?_ _))); (first | done | fail))))); (have hq := (‹_ ∧ _ ∧ Below _ _ _›).2.2; have hb6 := hq.trans (grown_below (B := wq.heap.size) hg6 (fun k hk => (ho4.row.lt k hk).1) hq.size))))
          all_goals (go_wp2_with fail)
          all_goals (go_meet)
          all_goals (
            refine ⟨A6, c6, (L2 ++ [(⟨⟨nm, d, f, ss⟩, A3, c3⟩ : RItem)]) ++ L5, rfl, ?_, ?_, ?_⟩
            rotate_left
            · first | exact ho6 | exact ho6.drew
            · first | exact hb6 | exact hb6.drew
            · rw [plI_append, plI_append, hp2.out, hp5.out, ← HP.out]; simp [plI, insP, List.map_take, List.map_drop])
        obtain ⟨A7, c7, L7, rfl, hp7, ho7, hb7⟩ := hcut
        obtain ⟨w7, hwc⟩ : ∃ W, W = wc := ⟨_, rfl⟩
        subst hwc
        have hbw7 : Below w.heap.size w w7 := hbq0.trans (hb7.mono hwq1)
        have ho7 := ho7.wide (lo' := wq.heap.size) (Nat.le_refl _) (Nat.le_refl _)
        cases hcq : catOk (insP P (PItem.mk nm d f ss) 0)
        · have HCQ := Lib.hid hcq
          have HR := Lib.hid (added_no2 (x := (PItem.mk nm d f ss)) HJ.out hcq)
          clear hcq
          go_wp2_with (first | (go_at_call 93; refine (s_CatalogOk (insP P (PItem.mk nm d f ss) 0) w7.heap.size A7 _ c7 L7 _ hp7 (ho7.rdOk (by rw [hp7]; exact HQOK.out)) (Nat.le_refl _)).mono ?_; rintro e w8 ⟨rfl, hb8⟩; rw [HCQ.out]; (have hbw8 : Below w.heap.size w w8 := hbw7.trans (hb8.mono hbw7.size))) | (go_at_call 173; refine (u_l35Copy P B _ 0 0 L _ HP.out (hS.below (hbw8.mono hB)) (Nat.le_trans hB hbw8.size)).mono ?_; rintro e w9 ⟨A9, c9, L9, rfl, hp9, ho9, hb9⟩; (have hbw9 : Below w.heap.size w w9 := hbw8.trans (hb9.mono hbw8.size))))
          refine bodyPost_ret (v := .tuple #[.slice A9 P.length c9, .bool false]) (by simp [results, Tryz.results185, go_sem, *]) rfl ?_
          exact uitemsB_cast HR.out ⟨A9, c9, L9, rfl, hp9, ho9.wide hbw8.size (Nat.le_refl _), hbw9⟩
        · have HCQ := Lib.hid hcq
          have HR := Lib.hid (added_yes (x := (PItem.mk nm d f ss)) HJ.out HCK.out hcq)
          clear hcq
          go_wp2_with (first | (go_at_call 93; refine (s_CatalogOk (insP P (PItem.mk nm d f ss) 0) w7.heap.size A7 _ c7 L7 _ hp7 (ho7.rdOk (by rw [hp7]; exact HQOK.out)) (Nat.le_refl _)).mono ?_; rintro e w8 ⟨rfl, hb8⟩; rw [HCQ.out]; (have hbw8 : Below w.heap.size w w8 := hbw7.trans (hb8.mono hbw7.size))))
          refine bodyPost_ret (v := .tuple #[.slice A7 (0 + 1) c7, .bool true]) (by simp [results, Tryz.results185, go_sem, *]) rfl ?_
          refine uitemsB_cast HR.out ⟨A7, c7, L7, by rw [HQL.out], hp7, ?_, hbw8⟩
          rw [HQL.out]
          exact (ho7.below hb8).wide hwq1 (by have := hb8.size; omega)
    · clear hA0
      go_enter Tryz.func185, Tryz.ntmps185
      go_wp2_with (go_at_call 93; refine (s_CatalogOk P B _ n c L _ HP.out (hS.alloc hB _) (by simp; omega)).mono ?_; rintro e w1 ⟨rfl, hb1⟩; rw [HCK.out])
      have hk1 := blk_next hk0 hb1
      have hbw1 : Below w.heap.size w w1 := ((Below.refl _ _).alloc (Nat.le_refl _) _).trans (hb1.mono (by simp))
      go_loopw [6] (fun i wr => ∃ j : Nat, j ≤ n ∧ i = .int .i64 j ∧ Hid (allLt P nm j) ∧ Below w1.heap.size w1 wr) (fun i _ => n - (intOf i).toNat)
      case atStart => exact ⟨0, Nat.zero_le _, rfl, allLt_zero _ _, Below.refl _ _⟩
      case round =>
        obtain ⟨j, hj, rfl, HN, hb⟩ := hrel
        have hkr := blk_next hk1 hb
        have hzr : w.heap.size < wr.heap.size := blk_lt hkr
        have hbw : Below w.heap.size w wr := hbw1.trans (hb.mono hbw1.size)
        obtain ⟨hx0, hx1, hx2, hx3, hxl⟩ := blk4 hkr
        by_cases hlt : j < n
        focus
          obtain ⟨hk9, ad', hade, hab, hc0, hc1, hc2, hc3, hss, hnm⟩ := (hS.below (hbw.mono hB)).at_ hlt
          injection hade with hade
          subst hade
          have HX := Lib.hid (show P[j]? = some L[j].x by rw [← HP.out]; exact plI_at hk9)
          have hq1 : (ad.add (j * 4)).block < wr.heap.size := by rw [block_of_add]; omega
          cases hq : Op.bytesLess L[j].x.nm.toList nm.toList
          rotate_left
          · have HS := Lib.hid (allLt_succ HN.out HX.out hq)
            go_wp2_with fail
            go_quiet (fail)
            go_wp2
            go_roundw
            case rel => exact ⟨j + 1, by omega, by go_num, HS.out, by first | exact below_drewN hb _ | exact hb | exact bel⟩
            case measure => simp [intOf]; omega
          have HJ : Hid (posOf P (PItem.mk nm d f ss).nm = j) := posOf_at P nm j HN.out (by have := HL.out; omega) (fun x hx => by have h := HX.out; rw [hx] at h; injection h with h; rw [h]; exact hq)
          go_wp2_with fail
          go_quiet (fail)
        rotate_left
        focus
          have HJ : Hid (posOf P (PItem.mk nm d f ss).nm = j) := posOf_at P nm j HN.out (by have := HL.out; omega) (fun x hx => by obtain ⟨h, _⟩ := List.getElem?_eq_some_iff.1 hx; have := HL.out; omega)
          have hd : decide ((j : Int) < (n : Int)) = false := decide_eq_false (by omega)
          go_wp2_with fail
          go_quiet (fail)
        all_goals (
          obtain ⟨wq, hwq⟩ : ∃ W, W = wr.drewN nq := ⟨_, rfl⟩
          have hbq0 : Below w.heap.size w wq := by rw [hwq]; exact below_drewN hbw nq
          have hkq : wq.heap[w.heap.size]? = some (.cells #[.string nm, .int .i64 d, .int .i64 f, .slice Ax ss.length cx] 65 (0, 0)) := by rw [hwq]; exact hkr
          rw [← hwq]
          clear hx0 hx1 hx2 hx3 hxl hkr hb hzr hbw hwq
          obtain ⟨hx0, hx1, hx2, hx3, hxl⟩ := blk4 hkq
          go_wp2_with fail
          by_cases hcJ : c = j
          focus
            have hcut0 : ∀ W : World, Items W B (some ad) n L → Items W B (some ad) (n - j) (L.drop j) := by
              intro W h
              have := h.drop (k := j) (cap := c) hj hnc
              rwa [if_pos hcJ] at this
            have hcT : (c = j) = True := eq_true hcJ
            clear hcJ
          rotate_left
          focus
            have hcut0 : ∀ W : World, Items W B (some ad) n L → Items W B (some (ad.add (j * 4))) (n - j) (L.drop j) := by
              intro W h
              have := h.drop (k := j) (cap := c) hj hnc
              rwa [if_neg hcJ] at this
            have hcT : (c = j) = False := eq_false hcJ
            clear hcJ
          all_goals (
            have hSr := hS.below (hbq0.mono hB)
            have hXr := hX.below (hbq0.mono hB)
            have hwq1 := hbq0.size
            have HQL : Hid ((insP P (PItem.mk nm d f ss) j).length = n + 1) := by unfold Hid; have h1 := insP_len P (PItem.mk nm d f ss) j (by have := HL.out; omega); have := HL.out; omega
            have HQOK : Hid (OkItems (insP P (PItem.mk nm d f ss) j) 16777216) := insP_ok HPO.out (by have := HL.out; omega) ⟨hX.nb, hX.sb, hnms⟩ (by have := HL.out; omega)
            have HLN : Hid (j + 1 + (n - j) = n + 1) := by unfold Hid; omega
            have tok1 : True := trivial
            have hi0 : (0 : Int) ≤ (j : Int) := Int.natCast_nonneg _
            have hi1 : (j : Int) ≤ (c : Int) := by omega
            have hi4 : (n : Int) ≤ (c : Int) := by omega
            have hi5 : (j : Int) ≤ (n : Int) := by omega
            go_cut [7] (fun s7 wx => ∃ (A7 : Option Addr) (c7 : Nat) (L7 : List RItem), s7 = .slice A7 (n + 1) c7 ∧ plI L7 = insP P (PItem.mk nm d f ss) j ∧ OwnItems wx wq.heap.size wx.heap.size A7 (n + 1) c7 L7 ∧ Below wq.heap.size wq wx)
            case first =>
              go_region_held3 (fun W => (∀ b o, b < wq.heap.size → W.cell? ⟨b, o, none⟩ = (wq).cell? ⟨b, o, none⟩) ∧ (∀ b o, b < wq.heap.size → W.frozen? ⟨b, o, none⟩ = (wq).frozen? ⟨b, o, none⟩) ∧ Below (wq.heap.size) (wq) W) (exact keep_of bel) (first | (go_at_call 173; have _t := tok1; have hq := (‹_ ∧ _ ∧ Below _ _ _›).2.2; refine (s_l35CopyN B _ j c (L.take j) _ ?_ ?_).mono ?_; exact (hSr.below (hq.mono (by omega))).take hj; (first | exact Nat.le_trans (by omega) hq.size | omega); rintro e w2 ⟨A2, c2, L2, rfl, hp2, ho2, hb2⟩; clear _t tok1; have hqs2 := hq.size; have hbs2 := hb2.size; (try simp at hqs2); (try simp at hbs2); (have ho2 := ho2.wide (lo' := wq.heap.size) (hi' := w2.heap.size) (by first | exact hq.size | exact Nat.le_refl _) (Nat.le_refl _)); replace hp2 := Lib.hid hp2) | (go_at_call 181; have hq := (‹_ ∧ _ ∧ Below _ _ _›).2.2; refine (s_l05Copy d f B Ax ss.length cx ss _ ?_ ?_).mono ?_; exact hXr.below (hq.mono (by omega)); (first | exact Nat.le_trans (by omega) hq.size | omega); rintro e w3 ⟨A3, c3, rfl, ho3, hb3⟩; have hqs3 := hq.size; have hbs3 := hb3.size; (try simp at hqs3); (try simp at hbs3); (have hos3 : OwnS w3 w2.heap.size w3.heap.size A3 c3 ss := (OwnS.of ho3 (Nat.le_refl _)).wide (by first | exact Nat.le_refl _ | (simp; first | done | fail)) (Nat.le_refl _)); (have ho23 : OwnItems w3 wq.heap.size w2.heap.size A2 j c2 L2 := (by refine OwnItems.below ?_ hb3; (focus ((repeat (first | (with_reducible exact ho2) | (with_reducible refine OwnItems.drew ?_) | (with_reducible refine OwnItems.alloc ?_ _))); (first | done | fail))))); (have HLT : Hid (∀ s ∈ L2 ++ [(⟨⟨nm, d, f, ss⟩, A3, c3⟩ : RItem)], ∀ k, s.v.ownBlock = some k → k < w3.heap.size) := (by intro s hs k hk; rcases List.mem_append.1 hs with h | h; (exact Nat.lt_of_lt_of_le ((ho23.in_ s h).top k hk) (by omega)); (have h9 := List.mem_singleton.1 h; subst h9; exact hos3.top k hk))); (have HNE : Hid (∀ s ∈ L2, ∀ k, s.v.ownBlock = some k → (Value.slice A3 ss.length c3).ownBlock ≠ some k) := (by intro s hs k hk hk2; have h1 := (ho23.in_ s hs).top k hk; have h2 := (hos3.row.lt k hk2).1; omega)); clear ho3) | (go_at_call 173; have hq := (‹_ ∧ _ ∧ Below _ _ _›).2.2; refine (s_l35CopyN B _ (n - j) (c - j) (L.drop j) _ ?_ ?_).mono ?_; exact hcut0 _ (hSr.below (hq.mono (by omega))); (first | exact Nat.le_trans (by omega) hq.size | omega); rintro e w5 ⟨A5, c5, L5, rfl, hp5, ho5, hb5⟩; have hqs5 := hq.size; have hbs5 := hb5.size; (try simp at hqs5); (try simp at hbs5); (have HGE : Hid (∀ s ∈ L5, ∀ k, s.v.ownBlock = some k → w3.heap.size ≤ k) := (by intro s hs k hk; have h1 := ((ho5.in_ s hs).row.lt k hk).1; (try simp at h1); omega)); (have ho5 := ho5.wide (lo' := w3.heap.size) (hi' := w5.heap.size) (by first | exact Nat.le_refl _ | (simp; first | done | fail) | (simp; omega) | omega) (Nat.le_refl _)); replace hp5 := Lib.hid hp5; (have ho45 : OwnItems w5 wq.heap.size w4.heap.size A4 (j + 1) c4 (L2 ++ [(⟨⟨nm, d, f, ss⟩, A3, c3⟩ : RItem)]) := (by refine OwnItems.below ?_ hb5; (focus ((repeat (first | (with_reducible exact ho4) | (with_reducible refine OwnItems.drew ?_) | (with_reducible refine OwnItems.alloc ?_ _))); (first | done | fail)))))) | (go_at_call 173; have hq := (‹_ ∧ _ ∧ Below _ _ _›).2.2; refine (s_l35CopyN B _ (n - j) (c - j) (L.drop j) _ ?_ ?_).mono ?_; exact hcut0 _ (hSr.below (hq.mono (by omega))); (first | exact Nat.le_trans (by omega) hq.size | omega); rintro e w5 ⟨A5, c5, L5, rfl, hp5, ho5, hb5⟩; have hqs5 := hq.size; have hbs5 := hb5.size; (try simp at hqs5); (try simp at hbs5); (have HGE : Hid (∀ s ∈ L5, ∀ k, s.v.ownBlock = some k → w3.heap.size ≤ k) := (by intro s hs k hk; have h1 := ((ho5.in_ s hs).row.lt k hk).1; (try simp at h1); omega)); (have ho5 := ho5.wide (lo' := w3.heap.size) (hi' := w5.heap.size) (by first | exact Nat.le_refl _ | (simp; first | done | fail) | (simp; omega) | omega) (Nat.le_refl _)); replace hp5 := Lib.hid hp5; (have ho25 : OwnItems w5 wq.heap.size w2.heap.size A2 j c2 L2 := (by refine OwnItems.below ?_ hb5; (focus ((repeat (first | (with_reducible exact ho23) | (with_reducible refine OwnItems.drew ?_) | (with_reducible refine OwnItems.alloc ?_ _))); (first | done | fail))))); (have hos5 : OwnS w5 w2.heap.size w3.heap.size A3 c3 ss := (by refine OwnS.below ?_ hb5; (focus ((repeat (first | (with_reducible exact hos3) | (with_reducible refine OwnS.drew ?_) | (with_reducible refine OwnS.alloc ?_ _))); (first | done | fail)))))) | (refine step_append_G _ rfl (.tmp 32) (.tmp 39) 30 rfl wq.heap.size 65 i0 _ 4 56 Tryz.underlying30 hii hz0 hz1 hz2 rfl (by omega) (.slice A2 j c2) j (L2.flatMap itemCells) rfl ?_ (w3.heap.size + 1) (some ⟨w3.heap.size, 0, none⟩) 1 1 (itemCells (⟨⟨nm, d, f, ss⟩, A3, c3⟩ : RItem)) rfl ?_ (itemCells_one1 _) ?_ ?_ ?_ (j + 1) (L2.flatMap itemCells ++ itemCells (⟨⟨nm, d, f, ss⟩, A3, c3⟩ : RItem)) rfl rfl ?_; (refine OwnItems.row (hi := w2.heap.size) ?_; (focus ((repeat (first | (with_reducible exact ho23) | (with_reducible refine OwnItems.drew ?_) | (with_reducible refine OwnItems.alloc ?_ _))); (first | done | fail)))); (refine reads_blk4 (t := 65) ?_; (focus ((repeat (first | (with_reducible exact blk_new_at _ _ (by first | rfl | (simp; first | done | fail))) | (with_reducible refine blk_drew ?_) | (with_reducible refine blk_alloc ?_ _))); (first | done | fail)))); (unfold maxLen; omega); omega; (have hq := (‹_ ∧ _ ∧ Below _ _ _›).2.2; first | exact hq.size | omega | (simp; omega)); intro A4 c4 w4 hr4 hg4 hq4; (have ho4 : OwnItems w4 wq.heap.size w4.heap.size A4 (j + 1) c4 (L2 ++ [(⟨⟨nm, d, f, ss⟩, A3, c3⟩ : RItem)]) := (by refine OwnItems.append_in (r := (⟨⟨nm, d, f, ss⟩, A3, c3⟩ : RItem)) (mid := w2.heap.size) (hi := w3.heap.size) ?_ ?_ (by omega) (by first | omega | (simp; first | done | omega)) (by first | omega | (simp; first | done | omega)) hg4 hr4; (focus ((repeat (first | (with_reducible exact ho23) | (with_reducible refine OwnItems.drew ?_) | (with_reducible refine OwnItems.alloc ?_ _))); (first | done | fail))); (focus ((repeat (first | (with_reducible exact hos3) | (with_reducible refine OwnS.drew ?_) | (with_reducible refine OwnS.alloc ?_ _))); (first | done | fail))))); (have hq := (‹_ ∧ _ ∧ Below _ _ _›).2.2; have hb4 := hq.trans (grown_below (B := wq.heap.size) hg4 (fun k hk => (ho23.row.lt k hk).1) hq.size)); have hsz4 := hg4.size; (try simp at hsz4)) | (refine step_append_G _ rfl (.tmp 32) (.tmp 39) 30 rfl wq.heap.size 65 i0 _ 4 56 Tryz.underlying30 hii hz0 hz1 hz2 rfl (by omega) (.slice A2 j c2) j (L2.flatMap itemCells) rfl ?_ (w5.heap.size + 1) (some ⟨w5.heap.size, 0, none⟩) 1 1 (itemCells (⟨⟨nm, d, f, ss⟩, A3, c3⟩ : RItem)) rfl ?_ (itemCells_one1 _) ?_ ?_ ?_ (j + 1) (L2.flatMap itemCells ++ itemCells (⟨⟨nm, d, f, ss⟩, A3, c3⟩ : RItem)) rfl rfl ?_; (refine OwnItems.row (hi := w2.heap.size) ?_; (focus ((repeat (first | (with_reducible exact ho25) | (with_reducible refine OwnItems.drew ?_) | (with_reducible refine OwnItems.alloc ?_ _))); (first | done | fail)))); (refine reads_blk4 (t := 65) ?_; (focus ((repeat (first | (with_reducible exact blk_new_at _ _ (by first | rfl | (simp; first | done | fail))) | (with_reducible refine blk_drew ?_) | (with_reducible refine blk_alloc ?_ _))); (first | done | fail)))); (unfold maxLen; omega); omega; (have hq := (‹_ ∧ _ ∧ Below _ _ _›).2.2; first | exact hq.size | omega | (simp; omega)); intro A4 c4 w4 hr4 hg4 hq4; (have ho4 : OwnItems w4 wq.heap.size w4.heap.size A4 (j + 1) c4 (L2 ++ [(⟨⟨nm, d, f, ss⟩, A3, c3⟩ : RItem)]) := (by refine OwnItems.append_in (r := (⟨⟨nm, d, f, ss⟩, A3, c3⟩ : RItem)) (mid := w2.heap.size) (hi := w3.heap.size) ?_ ?_ (by omega) (by first | omega | (simp; first | done | omega)) (by first | omega | (simp; first | done | omega)) hg4 hr4; (focus ((repeat (first | (with_reducible exact ho25) | (with_reducible refine OwnItems.drew ?_) | (with_reducible refine OwnItems.alloc ?_ _))); (first | done | fail))); (focus ((repeat (first | (with_reducible exact hos5) | (with_reducible refine OwnS.drew ?_) | (with_reducible refine OwnS.alloc ?_ _))); (first | done | fail))))); (have hq := (‹_ ∧ _ ∧ Below _ _ _›).2.2; have hb4 := hq.trans (grown_below (B := wq.heap.size) hg4 (fun k hk => (ho23.row.lt k hk).1) hq.size)); have hsz4 := hg4.size; (try simp at hsz4); (have ho54 : OwnItems w4 w3.heap.size w5.heap.size A5 (n - j) c5 L5 := (by refine OwnItems.grown ?_ hg4 (fun k hk => .inl (by have h1 := ho23.top k hk; omega)); (focus ((repeat (first | (with_reducible exact ho5) | (with_reducible refine OwnItems.drew ?_) | (with_reducible refine OwnItems.alloc ?_ _))); (first | done | fail)))))) | (refine step_append_G _ rfl (.tmp 32) (.tmp 39) 30 rfl wq.heap.size 65 i0 _ 4 56 Tryz.underlying30 hii hz0 hz1 hz2 rfl (by omega) (.slice A2 j c2) j (L2.flatMap itemCells) rfl ?_ (w3.heap.size + 1) (some ⟨w3.heap.size, 0, none⟩) 1 1 (itemCells (⟨⟨nm, d, f, ss⟩, A3, c3⟩ : RItem)) rfl ?_ (itemCells_one1 _) ?_ ?_ ?_ (j + 1) (L2.flatMap itemCells ++ itemCells (⟨⟨nm, d, f, ss⟩, A3, c3⟩ : RItem)) rfl rfl ?_; (refine OwnItems.row (hi := w2.heap.size) ?_; (focus ((repeat (first | (with_reducible exact ho25) | (with_reducible refine OwnItems.drew ?_) | (with_reducible refine OwnItems.alloc ?_ _))); (first | done | fail)))); (refine reads_blk4 (t := 65) ?_; (focus ((repeat (first | (with_reducible exact blk_new_at _ _ (by first | rfl | (simp; first | done | fail))) | (with_reducible refine blk_drew ?_) | (with_reducible refine blk_alloc ?_ _))); (first | done | fail)))); (unfold maxLen; omega); omega; (have hq := (‹_ ∧ _ ∧ Below _ _ _›).2.2; first | exact hq.size | omega | (simp; omega)); intro A4 c4 w4 hr4 hg4 hq4; (have ho4 : OwnItems w4 wq.heap.size w4.heap.size A4 (j + 1) c4 (L2 ++ [(⟨⟨nm, d, f, ss⟩, A3, c3⟩ : RItem)]) := (by refine OwnItems.append_in (r := (⟨⟨nm, d, f, ss⟩, A3, c3⟩ : RItem)) (mid := w2.heap.size) (hi := w3.heap.size) ?_ ?_ (by omega) (by first | omega | (simp; first | done | omega)) (by first | omega | (simp; first | done | omega)) hg4 hr4; (focus ((repeat (first | (with_reducible exact ho25) | (with_reducible refine OwnItems.drew ?_) | (with_reducible refine OwnItems.alloc ?_ _))); (first | done | fail))); (focus ((repeat (first | (with_reducible exact hos5) | (with_reducible refine OwnS.drew ?_) | (with_reducible refine OwnS.alloc ?_ _))); (first | done | fail))))); (have hq := (‹_ ∧ _ ∧ Below _ _ _›).2.2; have hb4 := hq.trans (grown_below (B := wq.heap.size) hg4 (fun k hk => (ho23.row.lt k hk).1) hq.size)); have hsz4 := hg4.size; (try simp at hsz4); (have ho54 : OwnItems w4 w3.heap.size w5.heap.size A5 (n - j) c5 L5 := (by refine OwnItems.grown ?_ hg4 (fun k hk => .inl (by have h1 := ho23.top k hk; omega)); (focus ((repeat (first | (with_reducible exact ho5) | (with_reducible refine OwnItems.drew ?_) | (with_reducible refine OwnItems.alloc ?_ _))); (first | done | fail)))))) | (refine step_append_G _ rfl (.tmp 40) (.tmp 44) 30 rfl wq.heap.size 65 i0 _ 4 56 Tryz.underlying30 hii hz0 hz1 hz2 rfl (by omega) (.slice A4 (j + 1) c4) (j + 1) ((L2 ++ [(⟨⟨nm, d, f, ss⟩, A3, c3⟩ : RItem)]).flatMap itemCells) rfl ?_ w5.heap.size A5 (n - j) c5 (L5.flatMap itemCells) rfl ?_ (itemCells_one L5) ?_ ?_ ?_ (n + 1) ((L2 ++ [(⟨⟨nm, d, f, ss⟩, A3, c3⟩ : RItem)]).flatMap itemCells ++ L5.flatMap itemCells) ?_ ?_ ?_; (refine OwnItems.row (hi := w4.heap.size) ?_; (focus ((repeat (first | (with_reducible exact ho45) | (with_reducible refine OwnItems.drew ?_) | (with_reducible refine OwnItems.alloc ?_ _))); (first | done | fail)))); (refine Reads.of_own' (c := c5) (OwnItems.row (c := c5) (lo := w3.heap.size) (hi := w5.heap.size) ?_) ?_; (focus ((repeat (first | (with_reducible exact ho5) | (with_reducible refine OwnItems.drew ?_) | (with_reducible refine OwnItems.alloc ?_ _))); (first | done | fail))); (first | exact Nat.le_refl _ | (simp; first | done | fail) | omega | (simp; omega))); (unfold maxLen; omega); omega; (have hq := (‹_ ∧ _ ∧ Below _ _ _›).2.2; first | exact hq.size | omega | (simp; omega)); (first | omega | exact HLN.out); (exact rfl); intro A6 c6 w6 hr6 hg6 hq6; (have ho6 : OwnItems w6 wq.heap.size w6.heap.size A6 (n + 1) c6 ((L2 ++ [(⟨⟨nm, d, f, ss⟩, A3, c3⟩ : RItem)]) ++ L5) := (by refine OwnItems.join2 (A2 := A5) (m := (n - j)) (c2 := c5) (lo2 := w3.heap.size) (hi := w4.heap.size) (hi2 := w5.heap.size) ?_ ?_ (by omega) (by first | exact Nat.le_refl _ | omega | (simp; first | done | omega)) (by first | exact Nat.le_refl _ | omega | (simp; first | done | omega)) (fun a ha b hb k hk hk2 => by have h1 := HLT.out a ha k hk; have h2 := HGE.out b hb k hk2; omega) hg6 hr6; (focus ((repeat (first | (with_reducible exact ho45) | (with_reducible refine OwnItems.drew ?_) | (with_reducible refine OwnItems.alloc ?_ _))); (first | done | fail))); (focus ((repeat (first | (with_reducible exact ho5) | (with_reducible refine OwnItems.drew ?_) | (with_reducible refine OwnItems.alloc ?_ _))); (first | done | fail))))); (have hq := (‹_ ∧ _ ∧ Below _ _ _›).2.2; have hb6 := hq.trans (grown_below (B := wq.heap.size) hg6 (fun k hk => (ho45.row.lt k hk).1) hq.size))) | (refine step_append_G _ rfl (.tmp 40) (.tmp 44) 30 rfl wq.heap.size 65 i0 _ 4 56 Tryz.underlying30 hii hz0 hz1 hz2 rfl (by omega) (.slice A4 (j + 1) c4) (j + 1) ((L2 ++ [(⟨⟨nm, d, f, ss⟩, A3, c3⟩ : RItem)]).flatMap itemCells) rfl ?_ w4.heap.size A5 (n - j) c5 (L5.flatMap itemCells) rfl ?_ (itemCells_one L5) ?_ ?_ ?_ (n + 1) ((L2 ++ [(⟨⟨nm, d, f, ss⟩, A3, c3⟩ : RItem)]).flatMap itemCells ++ L5.flatMap itemCells) ?_ ?_ ?_; (refine OwnItems.row (hi := w4.heap.size) ?_; (focus ((repeat (first | (with_reducible exact ho4) | (with_reducible refine OwnItems.drew ?_) | (with_reducible refine OwnItems.alloc ?_ _))); (first | done | fail)))); (refine Reads.of_own' (c := c5) (OwnItems.row (c := c5) (lo := w3.heap.size) (hi := w5.heap.size) ?_) ?_; (focus ((repeat (first | (with_reducible exact ho54) | (with_reducible refine OwnItems.drew ?_) | (with_reducible refine OwnItems.alloc ?_ _))); (first | done | fail))); (first | exact Nat.le_refl _ | (simp; first | done | fail) | omega | (simp; omega))); (unfold maxLen; omega); omega; (have hq := (‹_ ∧ _ ∧ Below _ _ _›).2.2; first | exact hq.size | omega | (simp; omega)); (first | omega | exact HLN.out); (exact rfl); intro A6 c6 w6 hr6 hg6 hq6; (have ho6 : OwnItems w6 wq.heap.size w6.heap.size A6 (n + 1) c6 ((L2 ++ [(⟨⟨nm, d, f, ss⟩, A3, c3⟩ : RItem)]) ++ L5) := (by refine OwnItems.join2 (A2 := A5) (m := (n - j)) (c2 := c5) (lo2 := w3.heap.size) (hi := w4.heap.size) (hi2 := w5.heap.size) ?_ ?_ (by omega) (by first | exact Nat.le_refl _ | omega | (simp; first | done | omega)) (by first | exact Nat.le_refl _ | omega | (simp; first | done | omega)) (fun a ha b hb k hk hk2 => by have h1 := HLT.out a ha k hk; have h2 := HGE.out b hb k hk2; omega) hg6 hr6; (focus ((repeat (first | (with_reducible exact ho4) | (with_reducible refine OwnItems.drew ?_) | (with_reducible refine OwnItems.alloc ?_ _))); (first | done | fail))); (focus ((repeat (first | (with_reducible exact ho54) | (with_reducible refine OwnItems.drew ?_) | (with_reducible refine OwnItems.alloc ?_ _))); (first | done | fail))))); (have hq := (‹_ ∧ _ ∧ Below _ _ _›).2.2; have hb6 := hq.trans (grown_below (B := wq.heap.size) hg6 (fun k hk => (ho4.row.lt k hk).1) hq.size))))
              all_goals (go_wp2_with fail)
              all_goals (go_meet)
              all_goals (
                refine ⟨A6, c6, (L2 ++ [(⟨⟨nm, d, f, ss⟩, A3, c3⟩ : RItem)]) ++ L5, rfl, ?_, ?_, ?_⟩
                rotate_left
                · first | exact ho6 | exact ho6.drew
                · first | exact hb6 | exact hb6.drew
                · rw [plI_append, plI_append, hp2.out, hp5.out, ← HP.out]; simp [plI, insP, List.map_take, List.map_drop])
            obtain ⟨A7, c7, L7, rfl, hp7, ho7, hb7⟩ := hcut
            obtain ⟨w7, hwc⟩ : ∃ W, W = wc := ⟨_, rfl⟩
            subst hwc
            have hbw7 : Below w.heap.size w w7 := hbq0.trans (hb7.mono hwq1)
            have ho7 := ho7.wide (lo' := wq.heap.size) (Nat.le_refl _) (Nat.le_refl _)
            cases hcq : catOk (insP P (PItem.mk nm d f ss) j)
            · have HCQ := Lib.hid hcq
              have HR := Lib.hid (added_no2 (x := (PItem.mk nm d f ss)) HJ.out hcq)
              clear hcq
              go_wp2_with (first | (go_at_call 93; refine (s_CatalogOk (insP P (PItem.mk nm d f ss) j) w7.heap.size A7 _ c7 L7 _ hp7 (ho7.rdOk (by rw [hp7]; exact HQOK.out)) (Nat.le_refl _)).mono ?_; rintro e w8 ⟨rfl, hb8⟩; rw [HCQ.out]; (have hbw8 : Below w.heap.size w w8 := hbw7.trans (hb8.mono hbw7.size))) | (go_at_call 173; refine (u_l35Copy P B _ n c L _ HP.out (hS.below (hbw8.mono hB)) (Nat.le_trans hB hbw8.size)).mono ?_; rintro e w9 ⟨A9, c9, L9, rfl, hp9, ho9, hb9⟩; (have hbw9 : Below w.heap.size w w9 := hbw8.trans (hb9.mono hbw8.size))))
              refine bodyPost_ret (v := .tuple #[.slice A9 P.length c9, .bool false]) (by simp [results, Tryz.results185, go_sem, *]) rfl ?_
              exact uitemsB_cast HR.out ⟨A9, c9, L9, rfl, hp9, ho9.wide hbw8.size (Nat.le_refl _), hbw9⟩
            · have HCQ := Lib.hid hcq
              have HR := Lib.hid (added_yes (x := (PItem.mk nm d f ss)) HJ.out HCK.out hcq)
              clear hcq
              go_wp2_with (first | (go_at_call 93; refine (s_CatalogOk (insP P (PItem.mk nm d f ss) j) w7.heap.size A7 _ c7 L7 _ hp7 (ho7.rdOk (by rw [hp7]; exact HQOK.out)) (Nat.le_refl _)).mono ?_; rintro e w8 ⟨rfl, hb8⟩; rw [HCQ.out]; (have hbw8 : Below w.heap.size w w8 := hbw7.trans (hb8.mono hbw7.size))))
              refine bodyPost_ret (v := .tuple #[.slice A7 (n + 1) c7, .bool true]) (by simp [results, Tryz.results185, go_sem, *]) rfl ?_
              refine uitemsB_cast HR.out ⟨A7, c7, L7, by rw [HQL.out], hp7, ?_, hbw8⟩
              rw [HQL.out]
              exact (ho7.below hb8).wide hwq1 (by have := hb8.size; omega)))
end Go.Proofs.YtlimlolciekimaaGreatDoor
