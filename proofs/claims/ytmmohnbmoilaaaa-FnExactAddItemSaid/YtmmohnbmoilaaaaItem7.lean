/- The contracts of itemNamed, CardNamed of both packages. -/
import Derived.Test.YtmmohnbmoilaaaaItem5
import Derived.Test.YtmmohnbmoilaaaaItem6
namespace Go.Proofs.Ytmmohnbmoilaaaa
open Go.ChangeShapes Go.WideShapes Go.ChangeAt Go.RowKit
set_option linter.unusedVariables false
set_option maxRecDepth 10000

def idxNm (P : List PItem) (name : ByteArray) : Option Nat := P.findIdx? fun x => decide (x.nm = name)
def noNm (P : List PItem) (name : ByteArray) (j : Nat) : Prop := ∀ i, i < j → ∀ x, P[i]? = some x → x.nm ≠ name
theorem noNm_zero (P : List PItem) (name : ByteArray) : noNm P name 0 := fun i hi => absurd hi (by omega)
theorem noNm_succ {P : List PItem} {name : ByteArray} {j : Nat} {x : PItem} (h : noNm P name j) (hx : P[j]? = some x) (hn : x.nm ≠ name) : noNm P name (j + 1) := by
  intro i hi y hy
  rcases Nat.lt_or_ge i j with h1 | h1
  · exact h i h1 y hy
  · have : i = j := by omega
    subst this
    rw [hx] at hy; injection hy with hy; subst hy; exact hn
theorem idxNm_some {P : List PItem} {name : ByteArray} {j : Nat} {x : PItem} (h : noNm P name j) (hx : P[j]? = some x) (hn : x.nm = name) : idxNm P name = some j := by
  unfold idxNm
  obtain ⟨hj, rfl⟩ := List.getElem?_eq_some_iff.1 hx
  rw [List.findIdx?_eq_some_iff_getElem]
  refine ⟨hj, by simpa using hn, fun i hi => ?_⟩
  have := h i hi _ (List.getElem?_eq_getElem (by omega))
  simpa using this
theorem idxNm_none {P : List PItem} {name : ByteArray} (h : noNm P name P.length) : idxNm P name = none := by
  unfold idxNm
  rw [List.findIdx?_eq_none_iff]
  intro x hx
  obtain ⟨i, hi, rfl⟩ := List.getElem_of_mem hx
  have := h i hi _ (List.getElem?_eq_getElem hi)
  simpa using this
def idxI (P : List PItem) (name : ByteArray) : Int := match idxNm P name with | some k => k | none => -1
set_option maxHeartbeats 400000 in
theorem c_itemNamed1 (nm name : ByteArray) (d f : Int) (A : Option Addr) (n c g : Nat) (w : World) (hg : w.cell? ⟨g, 0, none⟩ = some (.string name)) (hlt : g < w.heap.size) :
    Calls Try.prog 171 #[.agg #[.string nm, .int .i64 d, .int .i64 f, .slice A n c], .pointer (some ⟨g, 0, none⟩)] w fun e w' => e = .returned (.bool (decide (nm = name))) ∧ Below w.heap.size w w' := by
  by_cases h : nm = name
  · have hbq := beq_toList_true h
    have HD : Hid (decide (nm = name) = true) := by unfold Hid; simp [h]
    clear h
    go_enter Try.func171, Try.ntmps171
    go_wp2
    go_ret
    exact ⟨ret_bool HD.out.symm, (by repeat (first | (with_reducible exact Below.refl _ _) | (with_reducible assumption) | (with_reducible exact (‹_ ∧ _ ∧ Below _ _ _›).2.2) | (with_reducible refine below_drewN ?_ _) | (with_reducible refine Below.drew ?_) | ((with_reducible refine Below.alloc ?_ ?hsd _); (case hsd => (first | exact Nat.le_refl _ | (simp; done) | omega | (simp; omega) | exact (‹_ ∧ _ ∧ Below _ _ _›).2.2.size))) | ((with_reducible refine Below.setCell ?_ ?hsd _); (case hsd => (first | exact Nat.le_refl _ | (simp; done) | omega | (simp; omega) | exact (‹_ ∧ _ ∧ Below _ _ _›).2.2.size))) | ((with_reducible refine Below.trans ?_ (Below.mono (by with_reducible assumption) ?hsd)); (case hsd => (first | exact Nat.le_refl _ | (simp; done) | omega | (simp; omega) | exact (‹_ ∧ _ ∧ Below _ _ _›).2.2.size))) | exact Below.refl _ _ | assumption | exact (‹_ ∧ _ ∧ Below _ _ _›).2.2 | refine below_drewN ?_ _ | refine Below.drew ?_ | refine Below.alloc ?_ (by first | exact Nat.le_refl _ | (simp; done) | omega | (simp; omega) | exact (‹_ ∧ _ ∧ Below _ _ _›).2.2.size) _ | refine Below.setCell ?_ (by first | exact Nat.le_refl _ | (simp; done) | omega | (simp; omega) | exact (‹_ ∧ _ ∧ Below _ _ _›).2.2.size) _ | refine Below.trans ?_ (Below.mono (by assumption) (by first | exact Nat.le_refl _ | (simp; done) | omega | (simp; omega) | exact (‹_ ∧ _ ∧ Below _ _ _›).2.2.size))))⟩
  · have hbq := beq_toList_false h
    have HD : Hid (decide (nm = name) = false) := by unfold Hid; simp [h]
    clear h
    go_enter Try.func171, Try.ntmps171
    go_wp2
    go_ret
    exact ⟨ret_bool HD.out.symm, (by repeat (first | (with_reducible exact Below.refl _ _) | (with_reducible assumption) | (with_reducible exact (‹_ ∧ _ ∧ Below _ _ _›).2.2) | (with_reducible refine below_drewN ?_ _) | (with_reducible refine Below.drew ?_) | ((with_reducible refine Below.alloc ?_ ?hsd _); (case hsd => (first | exact Nat.le_refl _ | (simp; done) | omega | (simp; omega) | exact (‹_ ∧ _ ∧ Below _ _ _›).2.2.size))) | ((with_reducible refine Below.setCell ?_ ?hsd _); (case hsd => (first | exact Nat.le_refl _ | (simp; done) | omega | (simp; omega) | exact (‹_ ∧ _ ∧ Below _ _ _›).2.2.size))) | ((with_reducible refine Below.trans ?_ (Below.mono (by with_reducible assumption) ?hsd)); (case hsd => (first | exact Nat.le_refl _ | (simp; done) | omega | (simp; omega) | exact (‹_ ∧ _ ∧ Below _ _ _›).2.2.size))) | exact Below.refl _ _ | assumption | exact (‹_ ∧ _ ∧ Below _ _ _›).2.2 | refine below_drewN ?_ _ | refine Below.drew ?_ | refine Below.alloc ?_ (by first | exact Nat.le_refl _ | (simp; done) | omega | (simp; omega) | exact (‹_ ∧ _ ∧ Below _ _ _›).2.2.size) _ | refine Below.setCell ?_ (by first | exact Nat.le_refl _ | (simp; done) | omega | (simp; omega) | exact (‹_ ∧ _ ∧ Below _ _ _›).2.2.size) _ | refine Below.trans ?_ (Below.mono (by assumption) (by first | exact Nat.le_refl _ | (simp; done) | omega | (simp; omega) | exact (‹_ ∧ _ ∧ Below _ _ _›).2.2.size))))⟩
set_option maxHeartbeats 1600000 in
theorem idxFunc (name : ByteArray) (g : Nat) (P : List PItem) (B : Nat) (A : Option Addr) (n c : Nat) (L : List RItem) (w : World) (hp : plI L = P) (hS : Items w B A n L) (hB : B ≤ w.heap.size) (hg : w.cell? ⟨g, 0, none⟩ = some (.string name)) (hlt : g < w.heap.size) :
    Calls Try.prog 170 #[.slice A n c, .func (.func 171) #[] #[.pointer (some ⟨g, 0, none⟩)]] w fun e w' => e = .returned (.int .i64 (idxI P name)) ∧ Below w.heap.size w w' := by
  have hn := hS.nb
  have hl : P.length = n := by rw [← hp, plI_len, hS.len]
  have HL := Lib.hid hl
  have HP := Lib.hid hp
  clear hl hp
  go_enter Try.func170, Try.ntmps170
  go_wp2
  go_loopw [5, 8] (fun x i wr => ∃ j : Nat, j ≤ n ∧ i = .int .i64 j ∧ Hid (noNm P name j) ∧ Below w.heap.size w wr) (fun _ i _ => n - (intOf i).toNat)
  case atStart => exact ⟨0, Nat.zero_le _, rfl, noNm_zero _ _, Below.refl _ _⟩
  case round =>
    obtain ⟨j, hj, rfl, HN, hb⟩ := hrel
    have hzr := hb.size
    by_cases hltn : j < n
    · obtain ⟨hk1, ad, rfl, hab, hc0, hc1, hc2, hc3, hss, hnm⟩ := (hS.below (hb.mono hB)).at_ hltn
      have HX := Lib.hid (show P[j]? = some L[j].x by rw [← HP.out]; exact plI_at hk1)
      have hgr : wr.cell? ⟨g, 0, none⟩ = some (.string name) := by rw [hb.cell (p := ⟨g, 0, none⟩) hlt]; exact hg
      have hgl : g < wr.heap.size := by omega
      generalize L[j] = r at *
      have hcon := c_itemNamed1 r.x.nm name r.x.d r.x.f r.A r.x.ss.length r.c g wr hgr hgl
      by_cases hq : r.x.nm = name
      · have HF : Hid (idxI P name = j) := by unfold Hid idxI; rw [idxNm_some HN.out HX.out hq]
        rw [show decide (r.x.nm = name) = true by simp [hq]] at hcon
        have HC := hide hcon
        clear hq hcon
        go_wp2_with (go_at_call 171; refine (unhide HC).mono ?_; rintro e w1 ⟨rfl, hb1⟩)
        go_ret
        exact ⟨ret_int HF.out.symm, (by repeat (first | (with_reducible exact Below.refl _ _) | (with_reducible assumption) | (with_reducible exact (‹_ ∧ _ ∧ Below _ _ _›).2.2) | (with_reducible refine below_drewN ?_ _) | (with_reducible refine Below.drew ?_) | ((with_reducible refine Below.alloc ?_ ?hsd _); (case hsd => (first | exact Nat.le_refl _ | (simp; done) | omega | (simp; omega) | exact (‹_ ∧ _ ∧ Below _ _ _›).2.2.size))) | ((with_reducible refine Below.setCell ?_ ?hsd _); (case hsd => (first | exact Nat.le_refl _ | (simp; done) | omega | (simp; omega) | exact (‹_ ∧ _ ∧ Below _ _ _›).2.2.size))) | ((with_reducible refine Below.trans ?_ (Below.mono (by with_reducible assumption) ?hsd)); (case hsd => (first | exact Nat.le_refl _ | (simp; done) | omega | (simp; omega) | exact (‹_ ∧ _ ∧ Below _ _ _›).2.2.size))) | exact Below.refl _ _ | assumption | exact (‹_ ∧ _ ∧ Below _ _ _›).2.2 | refine below_drewN ?_ _ | refine Below.drew ?_ | refine Below.alloc ?_ (by first | exact Nat.le_refl _ | (simp; done) | omega | (simp; omega) | exact (‹_ ∧ _ ∧ Below _ _ _›).2.2.size) _ | refine Below.setCell ?_ (by first | exact Nat.le_refl _ | (simp; done) | omega | (simp; omega) | exact (‹_ ∧ _ ∧ Below _ _ _›).2.2.size) _ | refine Below.trans ?_ (Below.mono (by assumption) (by first | exact Nat.le_refl _ | (simp; done) | omega | (simp; omega) | exact (‹_ ∧ _ ∧ Below _ _ _›).2.2.size))))⟩
      · have HS := Lib.hid (noNm_succ HN.out HX.out hq)
        rw [show decide (r.x.nm = name) = false by simp [hq]] at hcon
        have HC := hide hcon
        clear hq hcon
        go_wp2_with (go_at_call 171; refine (unhide HC).mono ?_; rintro e w1 ⟨rfl, hb1⟩)
        go_roundw
        case rel => exact ⟨j + 1, by omega, by go_num, HS.out, (by repeat (first | (with_reducible exact Below.refl _ _) | (with_reducible assumption) | (with_reducible exact (‹_ ∧ _ ∧ Below _ _ _›).2.2) | (with_reducible refine below_drewN ?_ _) | (with_reducible refine Below.drew ?_) | ((with_reducible refine Below.alloc ?_ ?hsd _); (case hsd => (first | exact Nat.le_refl _ | (simp; done) | omega | (simp; omega) | exact (‹_ ∧ _ ∧ Below _ _ _›).2.2.size))) | ((with_reducible refine Below.setCell ?_ ?hsd _); (case hsd => (first | exact Nat.le_refl _ | (simp; done) | omega | (simp; omega) | exact (‹_ ∧ _ ∧ Below _ _ _›).2.2.size))) | ((with_reducible refine Below.trans ?_ (Below.mono (by with_reducible assumption) ?hsd)); (case hsd => (first | exact Nat.le_refl _ | (simp; done) | omega | (simp; omega) | exact (‹_ ∧ _ ∧ Below _ _ _›).2.2.size))) | exact Below.refl _ _ | assumption | exact (‹_ ∧ _ ∧ Below _ _ _›).2.2 | refine below_drewN ?_ _ | refine Below.drew ?_ | refine Below.alloc ?_ (by first | exact Nat.le_refl _ | (simp; done) | omega | (simp; omega) | exact (‹_ ∧ _ ∧ Below _ _ _›).2.2.size) _ | refine Below.setCell ?_ (by first | exact Nat.le_refl _ | (simp; done) | omega | (simp; omega) | exact (‹_ ∧ _ ∧ Below _ _ _›).2.2.size) _ | refine Below.trans ?_ (Below.mono (by assumption) (by first | exact Nat.le_refl _ | (simp; done) | omega | (simp; omega) | exact (‹_ ∧ _ ∧ Below _ _ _›).2.2.size))))⟩
        case measure => simp [intOf]; omega
    · have hjn : j = n := by omega
      have HF : Hid (idxI P name = -1) := by unfold Hid idxI; rw [idxNm_none (by rw [HL.out, ← hjn]; exact HN.out)]
      clear hjn
      go_wp2
      go_ret
      exact ⟨ret_int HF.out.symm, hb⟩
set_option maxHeartbeats 800000 in
theorem i_itemNamed (name : ByteArray) (P : List PItem) (B : Nat) (A : Option Addr) (n c : Nat) (L : List RItem) (w : World) (hp : plI L = P) (hS : Items w B A n L) (hB : B ≤ w.heap.size) :
    Calls Try.prog 111 #[.slice A n c, .string name] w fun e w' => e = .returned (.int .i64 (idxI P name)) ∧ Below w.heap.size w w' := by
  have hmf : ∀ (fn : Fn) (first cap : Array Value) (w : World), (Instr.makeFunc fn first cap).run Try.prog w = .ok (.func fn first cap) w := fun _ _ _ _ => rfl
  have hcon := idxFunc name w.heap.size P B A n c L (w.alloc (.cells #[.string name] 9)) hp (hS.alloc hB _) (by simp; omega) (by rw [World.cell?_alloc_mark]; rfl) (by simp)
  have HC := hide hcon
  clear hcon
  go_enter Try.func111, Try.ntmps111
  go_wp2_with (go_at_call 170; refine (unhide HC).mono ?_; rintro e w1 ⟨rfl, hb1⟩)
  go_ret
  exact ⟨rfl, (by repeat (first | (with_reducible exact Below.refl _ _) | (with_reducible assumption) | (with_reducible exact (‹_ ∧ _ ∧ Below _ _ _›).2.2) | (with_reducible refine below_drewN ?_ _) | (with_reducible refine Below.drew ?_) | ((with_reducible refine Below.alloc ?_ ?hsd _); (case hsd => (first | exact Nat.le_refl _ | (simp; done) | omega | (simp; omega) | exact (‹_ ∧ _ ∧ Below _ _ _›).2.2.size))) | ((with_reducible refine Below.setCell ?_ ?hsd _); (case hsd => (first | exact Nat.le_refl _ | (simp; done) | omega | (simp; omega) | exact (‹_ ∧ _ ∧ Below _ _ _›).2.2.size))) | ((with_reducible refine Below.trans ?_ (Below.mono (by with_reducible assumption) ?hsd)); (case hsd => (first | exact Nat.le_refl _ | (simp; done) | omega | (simp; omega) | exact (‹_ ∧ _ ∧ Below _ _ _›).2.2.size))) | exact Below.refl _ _ | assumption | exact (‹_ ∧ _ ∧ Below _ _ _›).2.2 | refine below_drewN ?_ _ | refine Below.drew ?_ | refine Below.alloc ?_ (by first | exact Nat.le_refl _ | (simp; done) | omega | (simp; omega) | exact (‹_ ∧ _ ∧ Below _ _ _›).2.2.size) _ | refine Below.setCell ?_ (by first | exact Nat.le_refl _ | (simp; done) | omega | (simp; omega) | exact (‹_ ∧ _ ∧ Below _ _ _›).2.2.size) _ | refine Below.trans ?_ (Below.mono (by assumption) (by first | exact Nat.le_refl _ | (simp; done) | omega | (simp; omega) | exact (‹_ ∧ _ ∧ Below _ _ _›).2.2.size))))⟩
/-- what CardNamed gives -/
def named (P : List PItem) (name : ByteArray) : (Int × Int) × (List ByteArray × Bool) :=
  if catOk P = true then match idxNm P name with | some k => (match P[k]? with | some x => ((x.d, x.f), (x.ss, true)) | none => ((0, 0), ([], false))) | none => ((0, 0), ([], false)) else ((0, 0), ([], false))
theorem named_no1 {P : List PItem} {name : ByteArray} (h : catOk P = false) : named P name = ((0, 0), ([], false)) := by unfold named; rw [h]; simp
theorem named_no2 {P : List PItem} {name : ByteArray} (h : idxNm P name = none) : named P name = ((0, 0), ([], false)) := by unfold named; rw [h]; split <;> rfl
theorem named_yes {P : List PItem} {name : ByteArray} {k : Nat} {x : PItem} (h : catOk P = true) (h2 : idxNm P name = some k) (h3 : P[k]? = some x) : named P name = ((x.d, x.f), (x.ss, true)) := by unfold named; rw [h, if_pos rfl, h2]; simp [h3]
theorem zeroCard (w w' : World) (hb : Below w.heap.size w w') : UCardB 0 0 [] false w (.returned (.tuple #[.agg #[.int .i64 0, .int .i64 0, .slice none 0 0], .bool false])) w' :=
  ⟨none, 0, rfl, ⟨World.ownsRow_nil w' _ _ _, fun k hk => by simp [Value.ownBlock] at hk⟩, hb⟩
theorem ucardB_cast {d f : Int} {ss : List ByteArray} {b : Bool} {q : (Int × Int) × (List ByteArray × Bool)} {w w' : World} {e : Ending} (h : q = ((d, f), (ss, b))) (hu : UCardB d f ss b w e w') : UCardB q.1.1 q.1.2 q.2.1 q.2.2 w e w' := by subst h; exact hu
set_option maxHeartbeats 3200000 in
theorem i_CardNamed (name : ByteArray) (P : List PItem) (B : Nat) (A : Option Addr) (n c : Nat) (L : List RItem) (w : World) (hp : plI L = P) (hS : Items w B A n L) (hB : B ≤ w.heap.size) :
    Calls Try.prog 40 #[.slice A n c, .string name] w (UCardB (named P name).1.1 (named P name).1.2 (named P name).2.1 (named P name).2.2 w) := by
  have hn := hS.nb
  have hix := fun (W : World) (hW : Below w.heap.size w W) => i_itemNamed name P B A n c L W hp (hS.below (hW.mono hB)) (Nat.le_trans hB hW.size)
  have hco := fun (W : World) (hW : Below w.heap.size w W) => i_CatalogOk P B A n c L W hp (hS.below (hW.mono hB)) (Nat.le_trans hB hW.size)
  cases hck : catOk P
  · have HR := Lib.hid (named_no1 (name := name) hck)
    simp only [hck] at hco
    have HIX := hide hix
    have HCO := hide hco
    clear hix hco hck
    go_enter Try.func40, Try.ntmps40
    go_wp2_with (first | (go_at_call 111; refine (unhide HIX _ (by exact (by repeat (first | (with_reducible exact Below.refl _ _) | (with_reducible assumption) | (with_reducible exact (‹_ ∧ _ ∧ Below _ _ _›).2.2) | (with_reducible refine below_drewN ?_ _) | (with_reducible refine Below.drew ?_) | ((with_reducible refine Below.alloc ?_ ?hsd _); (case hsd => (first | exact Nat.le_refl _ | (simp; done) | omega | (simp; omega) | exact (‹_ ∧ _ ∧ Below _ _ _›).2.2.size))) | ((with_reducible refine Below.setCell ?_ ?hsd _); (case hsd => (first | exact Nat.le_refl _ | (simp; done) | omega | (simp; omega) | exact (‹_ ∧ _ ∧ Below _ _ _›).2.2.size))) | ((with_reducible refine Below.trans ?_ (Below.mono (by with_reducible assumption) ?hsd)); (case hsd => (first | exact Nat.le_refl _ | (simp; done) | omega | (simp; omega) | exact (‹_ ∧ _ ∧ Below _ _ _›).2.2.size))) | exact Below.refl _ _ | assumption | exact (‹_ ∧ _ ∧ Below _ _ _›).2.2 | refine below_drewN ?_ _ | refine Below.drew ?_ | refine Below.alloc ?_ (by first | exact Nat.le_refl _ | (simp; done) | omega | (simp; omega) | exact (‹_ ∧ _ ∧ Below _ _ _›).2.2.size) _ | refine Below.setCell ?_ (by first | exact Nat.le_refl _ | (simp; done) | omega | (simp; omega) | exact (‹_ ∧ _ ∧ Below _ _ _›).2.2.size) _ | refine Below.trans ?_ (Below.mono (by assumption) (by first | exact Nat.le_refl _ | (simp; done) | omega | (simp; omega) | exact (‹_ ∧ _ ∧ Below _ _ _›).2.2.size)))))).mono ?_; rintro e w1 ⟨rfl, hb1⟩; obtain ⟨hcb1, hfb1⟩ := bcell hb1; have hz_w1_0 : w.heap.size < w1.heap.size := (by have hzz := hb1.size; (try simp at hzz); omega); have hy_w1_0 := Nat.le_of_lt hz_w1_0; (have hbw1 : Below w.heap.size w w1 := (by repeat (first | (with_reducible exact Below.refl _ _) | (with_reducible assumption) | (with_reducible exact (‹_ ∧ _ ∧ Below _ _ _›).2.2) | (with_reducible refine below_drewN ?_ _) | (with_reducible refine Below.drew ?_) | ((with_reducible refine Below.alloc ?_ ?hsd _); (case hsd => (first | exact Nat.le_refl _ | (simp; done) | omega | (simp; omega) | exact (‹_ ∧ _ ∧ Below _ _ _›).2.2.size))) | ((with_reducible refine Below.setCell ?_ ?hsd _); (case hsd => (first | exact Nat.le_refl _ | (simp; done) | omega | (simp; omega) | exact (‹_ ∧ _ ∧ Below _ _ _›).2.2.size))) | ((with_reducible refine Below.trans ?_ (Below.mono (by with_reducible assumption) ?hsd)); (case hsd => (first | exact Nat.le_refl _ | (simp; done) | omega | (simp; omega) | exact (‹_ ∧ _ ∧ Below _ _ _›).2.2.size))) | exact Below.refl _ _ | assumption | exact (‹_ ∧ _ ∧ Below _ _ _›).2.2 | refine below_drewN ?_ _ | refine Below.drew ?_ | refine Below.alloc ?_ (by first | exact Nat.le_refl _ | (simp; done) | omega | (simp; omega) | exact (‹_ ∧ _ ∧ Below _ _ _›).2.2.size) _ | refine Below.setCell ?_ (by first | exact Nat.le_refl _ | (simp; done) | omega | (simp; omega) | exact (‹_ ∧ _ ∧ Below _ _ _›).2.2.size) _ | refine Below.trans ?_ (Below.mono (by assumption) (by first | exact Nat.le_refl _ | (simp; done) | omega | (simp; omega) | exact (‹_ ∧ _ ∧ Below _ _ _›).2.2.size)))))) | (go_at_call 107; refine (unhide HCO _ hbw1).mono ?_; rintro e w2 ⟨rfl, hb2⟩; obtain ⟨hcb2, hfb2⟩ := bcell hb2; (have hz2 : w.heap.size < w2.heap.size := (by have := hb2.size; omega)); (have hbw2 : Below w.heap.size w w2 := hbw1.trans (hb2.mono hbw1.size))))
    refine bodyPost_ret (v := .tuple #[.agg #[.int .i64 0, .int .i64 0, .slice none 0 0], .bool false]) (by simp [results, Try.results40, go_sem, *]) rfl ?_
    exact ucardB_cast HR.out (zeroCard _ _ (by repeat (first | (with_reducible exact Below.refl _ _) | (with_reducible assumption) | (with_reducible exact (‹_ ∧ _ ∧ Below _ _ _›).2.2) | (with_reducible refine below_drewN ?_ _) | (with_reducible refine Below.drew ?_) | ((with_reducible refine Below.alloc ?_ ?hsd _); (case hsd => (first | exact Nat.le_refl _ | (simp; done) | omega | (simp; omega) | exact (‹_ ∧ _ ∧ Below _ _ _›).2.2.size))) | ((with_reducible refine Below.setCell ?_ ?hsd _); (case hsd => (first | exact Nat.le_refl _ | (simp; done) | omega | (simp; omega) | exact (‹_ ∧ _ ∧ Below _ _ _›).2.2.size))) | ((with_reducible refine Below.trans ?_ (Below.mono (by with_reducible assumption) ?hsd)); (case hsd => (first | exact Nat.le_refl _ | (simp; done) | omega | (simp; omega) | exact (‹_ ∧ _ ∧ Below _ _ _›).2.2.size))) | exact Below.refl _ _ | assumption | exact (‹_ ∧ _ ∧ Below _ _ _›).2.2 | refine below_drewN ?_ _ | refine Below.drew ?_ | refine Below.alloc ?_ (by first | exact Nat.le_refl _ | (simp; done) | omega | (simp; omega) | exact (‹_ ∧ _ ∧ Below _ _ _›).2.2.size) _ | refine Below.setCell ?_ (by first | exact Nat.le_refl _ | (simp; done) | omega | (simp; omega) | exact (‹_ ∧ _ ∧ Below _ _ _›).2.2.size) _ | refine Below.trans ?_ (Below.mono (by assumption) (by first | exact Nat.le_refl _ | (simp; done) | omega | (simp; omega) | exact (‹_ ∧ _ ∧ Below _ _ _›).2.2.size)))))
  · cases hk : idxNm P name with
    | none =>
      have HR := Lib.hid (named_no2 hk)
      have hI : idxI P name = -1 := by unfold idxI; rw [hk]
      simp only [hck] at hco
      simp only [hI] at hix
      have HIX := hide hix
      have HCO := hide hco
      clear hix hco hck hk hI
      go_enter Try.func40, Try.ntmps40
      go_wp2_with (first | (go_at_call 111; refine (unhide HIX _ (by exact (by repeat (first | (with_reducible exact Below.refl _ _) | (with_reducible assumption) | (with_reducible exact (‹_ ∧ _ ∧ Below _ _ _›).2.2) | (with_reducible refine below_drewN ?_ _) | (with_reducible refine Below.drew ?_) | ((with_reducible refine Below.alloc ?_ ?hsd _); (case hsd => (first | exact Nat.le_refl _ | (simp; done) | omega | (simp; omega) | exact (‹_ ∧ _ ∧ Below _ _ _›).2.2.size))) | ((with_reducible refine Below.setCell ?_ ?hsd _); (case hsd => (first | exact Nat.le_refl _ | (simp; done) | omega | (simp; omega) | exact (‹_ ∧ _ ∧ Below _ _ _›).2.2.size))) | ((with_reducible refine Below.trans ?_ (Below.mono (by with_reducible assumption) ?hsd)); (case hsd => (first | exact Nat.le_refl _ | (simp; done) | omega | (simp; omega) | exact (‹_ ∧ _ ∧ Below _ _ _›).2.2.size))) | exact Below.refl _ _ | assumption | exact (‹_ ∧ _ ∧ Below _ _ _›).2.2 | refine below_drewN ?_ _ | refine Below.drew ?_ | refine Below.alloc ?_ (by first | exact Nat.le_refl _ | (simp; done) | omega | (simp; omega) | exact (‹_ ∧ _ ∧ Below _ _ _›).2.2.size) _ | refine Below.setCell ?_ (by first | exact Nat.le_refl _ | (simp; done) | omega | (simp; omega) | exact (‹_ ∧ _ ∧ Below _ _ _›).2.2.size) _ | refine Below.trans ?_ (Below.mono (by assumption) (by first | exact Nat.le_refl _ | (simp; done) | omega | (simp; omega) | exact (‹_ ∧ _ ∧ Below _ _ _›).2.2.size)))))).mono ?_; rintro e w1 ⟨rfl, hb1⟩; obtain ⟨hcb1, hfb1⟩ := bcell hb1; have hz_w1_0 : w.heap.size < w1.heap.size := (by have hzz := hb1.size; (try simp at hzz); omega); have hy_w1_0 := Nat.le_of_lt hz_w1_0; (have hbw1 : Below w.heap.size w w1 := (by repeat (first | (with_reducible exact Below.refl _ _) | (with_reducible assumption) | (with_reducible exact (‹_ ∧ _ ∧ Below _ _ _›).2.2) | (with_reducible refine below_drewN ?_ _) | (with_reducible refine Below.drew ?_) | ((with_reducible refine Below.alloc ?_ ?hsd _); (case hsd => (first | exact Nat.le_refl _ | (simp; done) | omega | (simp; omega) | exact (‹_ ∧ _ ∧ Below _ _ _›).2.2.size))) | ((with_reducible refine Below.setCell ?_ ?hsd _); (case hsd => (first | exact Nat.le_refl _ | (simp; done) | omega | (simp; omega) | exact (‹_ ∧ _ ∧ Below _ _ _›).2.2.size))) | ((with_reducible refine Below.trans ?_ (Below.mono (by with_reducible assumption) ?hsd)); (case hsd => (first | exact Nat.le_refl _ | (simp; done) | omega | (simp; omega) | exact (‹_ ∧ _ ∧ Below _ _ _›).2.2.size))) | exact Below.refl _ _ | assumption | exact (‹_ ∧ _ ∧ Below _ _ _›).2.2 | refine below_drewN ?_ _ | refine Below.drew ?_ | refine Below.alloc ?_ (by first | exact Nat.le_refl _ | (simp; done) | omega | (simp; omega) | exact (‹_ ∧ _ ∧ Below _ _ _›).2.2.size) _ | refine Below.setCell ?_ (by first | exact Nat.le_refl _ | (simp; done) | omega | (simp; omega) | exact (‹_ ∧ _ ∧ Below _ _ _›).2.2.size) _ | refine Below.trans ?_ (Below.mono (by assumption) (by first | exact Nat.le_refl _ | (simp; done) | omega | (simp; omega) | exact (‹_ ∧ _ ∧ Below _ _ _›).2.2.size)))))) | (go_at_call 107; refine (unhide HCO _ hbw1).mono ?_; rintro e w2 ⟨rfl, hb2⟩; obtain ⟨hcb2, hfb2⟩ := bcell hb2; (have hz2 : w.heap.size < w2.heap.size := (by have := hb2.size; omega)); (have hbw2 : Below w.heap.size w w2 := hbw1.trans (hb2.mono hbw1.size))))
      refine bodyPost_ret (v := .tuple #[.agg #[.int .i64 0, .int .i64 0, .slice none 0 0], .bool false]) (by simp [results, Try.results40, go_sem, *]) rfl ?_
      exact ucardB_cast HR.out (zeroCard _ _ (by repeat (first | (with_reducible exact Below.refl _ _) | (with_reducible assumption) | (with_reducible exact (‹_ ∧ _ ∧ Below _ _ _›).2.2) | (with_reducible refine below_drewN ?_ _) | (with_reducible refine Below.drew ?_) | ((with_reducible refine Below.alloc ?_ ?hsd _); (case hsd => (first | exact Nat.le_refl _ | (simp; done) | omega | (simp; omega) | exact (‹_ ∧ _ ∧ Below _ _ _›).2.2.size))) | ((with_reducible refine Below.setCell ?_ ?hsd _); (case hsd => (first | exact Nat.le_refl _ | (simp; done) | omega | (simp; omega) | exact (‹_ ∧ _ ∧ Below _ _ _›).2.2.size))) | ((with_reducible refine Below.trans ?_ (Below.mono (by with_reducible assumption) ?hsd)); (case hsd => (first | exact Nat.le_refl _ | (simp; done) | omega | (simp; omega) | exact (‹_ ∧ _ ∧ Below _ _ _›).2.2.size))) | exact Below.refl _ _ | assumption | exact (‹_ ∧ _ ∧ Below _ _ _›).2.2 | refine below_drewN ?_ _ | refine Below.drew ?_ | refine Below.alloc ?_ (by first | exact Nat.le_refl _ | (simp; done) | omega | (simp; omega) | exact (‹_ ∧ _ ∧ Below _ _ _›).2.2.size) _ | refine Below.setCell ?_ (by first | exact Nat.le_refl _ | (simp; done) | omega | (simp; omega) | exact (‹_ ∧ _ ∧ Below _ _ _›).2.2.size) _ | refine Below.trans ?_ (Below.mono (by assumption) (by first | exact Nat.le_refl _ | (simp; done) | omega | (simp; omega) | exact (‹_ ∧ _ ∧ Below _ _ _›).2.2.size)))))
    | some k =>
      have hkP : k < P.length := by
        unfold idxNm at hk
        exact (List.findIdx?_eq_some_iff_getElem.1 hk).1
      have hl : P.length = n := by rw [← hp, plI_len, hS.len]
      have hI : idxI P name = k := by unfold idxI; rw [hk]
      have hkn : k < n := by omega
      obtain ⟨hk1, _⟩ := hS.at_ hkn
      have HR := Lib.hid (named_yes (x := L[k].x) hck hk (by rw [← hp]; exact plI_at hk1))
      simp only [hck] at hco
      simp only [hI] at hix
      have HIX := hide hix
      have HCO := hide hco
      clear hix hco hck hk hI hkP hl hp
      go_enter Try.func40, Try.ntmps40
      go_wp2_with (first | (go_at_call 111; refine (unhide HIX _ (by exact (by repeat (first | (with_reducible exact Below.refl _ _) | (with_reducible assumption) | (with_reducible exact (‹_ ∧ _ ∧ Below _ _ _›).2.2) | (with_reducible refine below_drewN ?_ _) | (with_reducible refine Below.drew ?_) | ((with_reducible refine Below.alloc ?_ ?hsd _); (case hsd => (first | exact Nat.le_refl _ | (simp; done) | omega | (simp; omega) | exact (‹_ ∧ _ ∧ Below _ _ _›).2.2.size))) | ((with_reducible refine Below.setCell ?_ ?hsd _); (case hsd => (first | exact Nat.le_refl _ | (simp; done) | omega | (simp; omega) | exact (‹_ ∧ _ ∧ Below _ _ _›).2.2.size))) | ((with_reducible refine Below.trans ?_ (Below.mono (by with_reducible assumption) ?hsd)); (case hsd => (first | exact Nat.le_refl _ | (simp; done) | omega | (simp; omega) | exact (‹_ ∧ _ ∧ Below _ _ _›).2.2.size))) | exact Below.refl _ _ | assumption | exact (‹_ ∧ _ ∧ Below _ _ _›).2.2 | refine below_drewN ?_ _ | refine Below.drew ?_ | refine Below.alloc ?_ (by first | exact Nat.le_refl _ | (simp; done) | omega | (simp; omega) | exact (‹_ ∧ _ ∧ Below _ _ _›).2.2.size) _ | refine Below.setCell ?_ (by first | exact Nat.le_refl _ | (simp; done) | omega | (simp; omega) | exact (‹_ ∧ _ ∧ Below _ _ _›).2.2.size) _ | refine Below.trans ?_ (Below.mono (by assumption) (by first | exact Nat.le_refl _ | (simp; done) | omega | (simp; omega) | exact (‹_ ∧ _ ∧ Below _ _ _›).2.2.size)))))).mono ?_; rintro e w1 ⟨rfl, hb1⟩; obtain ⟨hcb1, hfb1⟩ := bcell hb1; have hz_w1_0 : w.heap.size < w1.heap.size := (by have hzz := hb1.size; (try simp at hzz); omega); have hy_w1_0 := Nat.le_of_lt hz_w1_0; (have hbw1 : Below w.heap.size w w1 := (by repeat (first | (with_reducible exact Below.refl _ _) | (with_reducible assumption) | (with_reducible exact (‹_ ∧ _ ∧ Below _ _ _›).2.2) | (with_reducible refine below_drewN ?_ _) | (with_reducible refine Below.drew ?_) | ((with_reducible refine Below.alloc ?_ ?hsd _); (case hsd => (first | exact Nat.le_refl _ | (simp; done) | omega | (simp; omega) | exact (‹_ ∧ _ ∧ Below _ _ _›).2.2.size))) | ((with_reducible refine Below.setCell ?_ ?hsd _); (case hsd => (first | exact Nat.le_refl _ | (simp; done) | omega | (simp; omega) | exact (‹_ ∧ _ ∧ Below _ _ _›).2.2.size))) | ((with_reducible refine Below.trans ?_ (Below.mono (by with_reducible assumption) ?hsd)); (case hsd => (first | exact Nat.le_refl _ | (simp; done) | omega | (simp; omega) | exact (‹_ ∧ _ ∧ Below _ _ _›).2.2.size))) | exact Below.refl _ _ | assumption | exact (‹_ ∧ _ ∧ Below _ _ _›).2.2 | refine below_drewN ?_ _ | refine Below.drew ?_ | refine Below.alloc ?_ (by first | exact Nat.le_refl _ | (simp; done) | omega | (simp; omega) | exact (‹_ ∧ _ ∧ Below _ _ _›).2.2.size) _ | refine Below.setCell ?_ (by first | exact Nat.le_refl _ | (simp; done) | omega | (simp; omega) | exact (‹_ ∧ _ ∧ Below _ _ _›).2.2.size) _ | refine Below.trans ?_ (Below.mono (by assumption) (by first | exact Nat.le_refl _ | (simp; done) | omega | (simp; omega) | exact (‹_ ∧ _ ∧ Below _ _ _›).2.2.size)))))) | (go_at_call 107; refine (unhide HCO _ hbw1).mono ?_; rintro e w2 ⟨rfl, hb2⟩; obtain ⟨hcb2, hfb2⟩ := bcell hb2; (have hz2 : w.heap.size < w2.heap.size := (by have := hb2.size; omega)); (have hbw2 : Below w.heap.size w w2 := hbw1.trans (hb2.mono hbw1.size)); obtain ⟨hk9, ad, rfl, hab, hc0, hc1, hc2, hc3, hss, hnm⟩ := (hS.below (hbw2.mono hB)).at_ hkn) | (go_at_call 106; refine (i_copied _ _ B _ _ _ _ _ hss (by have := hbw2.size; omega)).mono ?_; rintro e w3 ⟨A3, c3, rfl, ho3, hb3⟩; obtain ⟨hcb3, hfb3⟩ := bcell hb3; (have hz3 : w.heap.size < w3.heap.size := (by have := hb3.size; omega)); (have hbw3 : Below w.heap.size w w3 := hbw2.trans (hb3.mono hbw2.size))))
      refine bodyPost_ret (v := .tuple #[.agg #[.int .i64 L[k].x.d, .int .i64 L[k].x.f, .slice A3 L[k].x.ss.length c3], .bool true]) (by simp [results, Try.results40, go_sem, *]) rfl ?_
      refine ucardB_cast HR.out ⟨A3, c3, rfl, OwnS.of (own_up ho3 (by repeat (first | (with_reducible exact Upper.refl _ _) | (with_reducible refine Upper.drew ?_) | (with_reducible refine Upper.drewN ?_ _) | ((with_reducible refine Upper.setCell ?_ ?hsd _); (case hsd => (first | exact Nat.le_refl _ | (simp; done) | omega | (simp; omega) | exact (‹_ ∧ _ ∧ Below _ _ _›).2.2.size))) | (with_reducible refine Upper.alloc ?_ _) | (with_reducible refine Upper.below ?_ (by with_reducible assumption)) | exact Upper.refl _ _ | refine Upper.drew ?_ | refine Upper.drewN ?_ _ | refine Upper.setCell ?_ (by first | exact Nat.le_refl _ | (simp; done) | omega | (simp; omega) | exact (‹_ ∧ _ ∧ Below _ _ _›).2.2.size) _ | refine Upper.alloc ?_ _ | refine Upper.below ?_ (by assumption))) hbw2.size) (by simp), (by repeat (first | (with_reducible exact Below.refl _ _) | (with_reducible assumption) | (with_reducible exact (‹_ ∧ _ ∧ Below _ _ _›).2.2) | (with_reducible refine below_drewN ?_ _) | (with_reducible refine Below.drew ?_) | ((with_reducible refine Below.alloc ?_ ?hsd _); (case hsd => (first | exact Nat.le_refl _ | (simp; done) | omega | (simp; omega) | exact (‹_ ∧ _ ∧ Below _ _ _›).2.2.size))) | ((with_reducible refine Below.setCell ?_ ?hsd _); (case hsd => (first | exact Nat.le_refl _ | (simp; done) | omega | (simp; omega) | exact (‹_ ∧ _ ∧ Below _ _ _›).2.2.size))) | ((with_reducible refine Below.trans ?_ (Below.mono (by with_reducible assumption) ?hsd)); (case hsd => (first | exact Nat.le_refl _ | (simp; done) | omega | (simp; omega) | exact (‹_ ∧ _ ∧ Below _ _ _›).2.2.size))) | exact Below.refl _ _ | assumption | exact (‹_ ∧ _ ∧ Below _ _ _›).2.2 | refine below_drewN ?_ _ | refine Below.drew ?_ | refine Below.alloc ?_ (by first | exact Nat.le_refl _ | (simp; done) | omega | (simp; omega) | exact (‹_ ∧ _ ∧ Below _ _ _›).2.2.size) _ | refine Below.setCell ?_ (by first | exact Nat.le_refl _ | (simp; done) | omega | (simp; omega) | exact (‹_ ∧ _ ∧ Below _ _ _›).2.2.size) _ | refine Below.trans ?_ (Below.mono (by assumption) (by first | exact Nat.le_refl _ | (simp; done) | omega | (simp; omega) | exact (‹_ ∧ _ ∧ Below _ _ _›).2.2.size))))⟩
end Go.Proofs.Ytmmohnbmoilaaaa
