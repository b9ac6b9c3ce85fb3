/- The contract of the program's AddItem. -/
import Derived.Test.YtmmohnbmoilaaaaItem12
import Derived.Test.YtmmohnbmoilaaaaLawKit2
import Derived.Deep.RegionHeld3
import Derived.Deep.DeepCutAuto
import Derived.Deep.QuietTactic
import Derived.BigQuiet
namespace Go.Proofs.Ytmmohnbmoilaaaa
open Go.ChangeShapes Go.WideShapes Go.ChangeAt Go.RowKit
set_option linter.unusedVariables false
set_option maxRecDepth 10000

theorem i_copyItemsN (B : Nat) (A : Option Addr) (n c : Nat) (L : List RItem) (w : World) (hS : Items w B A n L) (hB : B ≤ w.heap.size) :
    Calls Try.prog 105 #[.slice A n c] w fun e w' => ∃ A' c' L', e = .returned (.slice A' n c') ∧ plI L' = plI L ∧ OwnItems w' w.heap.size w'.heap.size A' n c' L' ∧ Below w.heap.size w w' := by
  have hl : (plI L).length = n := by rw [plI_len, hS.len]
  refine (u_copyItems (plI L) B A n c L w rfl hS hB).mono ?_
  rintro e w' ⟨A', c', L', h1, h2, h3, h4⟩
  rw [hl] at h1 h3
  exact ⟨A', c', L', h1, h2, h3, h4⟩
set_option maxHeartbeats 6400000 in
theorem i_AddItem (nm : ByteArray) (d f : Int) (Ax : Option Addr) (cx : Nat) (ss : List ByteArray) (P : List PItem) (B : Nat) (A : Option Addr) (n c : Nat) (L : List RItem) (w : World) (hp : plI L = P) (hS : Items w B A n L) (hX : Strs w B Ax ss.length ss) (hnms : nm.size ≤ 16777216) (hB : B ≤ w.heap.size) (hn2 : n ≤ 16777215) :
    Calls Try.prog 31 #[.slice A n c, .agg #[.string nm, .int .i64 d, .int .i64 f, .slice Ax ss.length cx]] w (UItemsB (added P (PItem.mk nm d f ss)).1 (added P (PItem.mk nm d f ss)).2 w) := by
  have hn := hS.nb
  have hl : P.length = n := by rw [← hp, plI_len, hS.len]
  have hpo : OkItems P 16777216 := by rw [← hp]; exact hS.ok
  have HPO := Lib.hid hpo
  have HL := Lib.hid hl
  have HP := Lib.hid hp
  clear hl hp hpo
  have hk0 := blk_new w (.cells #[.string nm, .int .i64 d, .int .i64 f, .slice Ax ss.length cx] 60)
  go_enter Try.func31, Try.ntmps31
  go_wp2
  go_loopw [6] (fun i wr => ∃ j : Nat, j ≤ n ∧ i = .int .i64 j ∧ Hid (allLt P nm j) ∧ Below (w.heap.size + 1) (w.alloc (.cells #[.string nm, .int .i64 d, .int .i64 f, .slice Ax ss.length cx] 60)) wr) (fun i _ => n - (intOf i).toNat)
  case atStart => exact ⟨0, Nat.zero_le _, rfl, allLt_zero _ _, Below.refl _ _⟩
  case round =>
    obtain ⟨j, hj, rfl, HN, hb⟩ := hrel
    have hkr := blk_below hk0 hb (by omega)
    have hzr : w.heap.size < wr.heap.size := blk_lt hkr
    have hbw : Below w.heap.size w wr := ((Below.refl _ _).alloc (Nat.le_refl _) _).trans (hb.mono (by omega))
    obtain ⟨hx0, hx1, hx2, hx3, hxl⟩ := blk4 hkr
    by_cases hlt : j < n
    · obtain ⟨hk1, ad, rfl, hab, hc0, hc1, hc2, hc3, hss, hnm⟩ := (hS.below (hbw.mono hB)).at_ hlt
      have HX := Lib.hid (show P[j]? = some L[j].x by rw [← HP.out]; exact plI_at hk1)
      have hq1 : (ad.add (j * 4)).block < wr.heap.size := by rw [block_of_add]; omega
      cases hq : Op.bytesLess L[j].x.nm.toList nm.toList
      · have HJ : Hid (posOf P (PItem.mk nm d f ss).nm = j) := posOf_at P nm j HN.out (by have := HL.out; omega) (fun x hx => by have h := HX.out; rw [hx] at h; injection h with h; rw [h]; exact hq)
        have hq9 : Op.bytesLess L[j].x.nm.toList nm.toList = false := hq
        go_wp2_with fail
        go_quiet (fail)
        obtain ⟨wq, hwq⟩ : ∃ W, W = wr.drewN nq := ⟨_, rfl⟩
        have hbq0 : Below w.heap.size w wq := by rw [hwq]; exact below_drewN hbw nq
        have hkq : wq.heap[w.heap.size]? = some (.cells #[.string nm, .int .i64 d, .int .i64 f, .slice Ax ss.length cx] 60 (0, 0)) := by rw [hwq]; exact hkr
        rw [← hwq]
        clear hx0 hx1 hx2 hx3 hxl hkr hb hzr hbw hwq
        obtain ⟨hx0, hx1, hx2, hx3, hxl⟩ := blk4 hkq
        go_wp2_with fail
        have hSr := hS.below (hbq0.mono hB)
        have hXr := hX.below (hbq0.mono hB)
        have hwq1 := hbq0.size
        have hQL := insP_len P (PItem.mk nm d f ss) j (by have := HL.out; omega)
        have HQL : Hid ((insP P (PItem.mk nm d f ss) j).length = n + 1) := by unfold Hid; have := HL.out; omega
        have HQOK : Hid (OkItems (insP P (PItem.mk nm d f ss) j) 16777216) := insP_ok HPO.out (by have := HL.out; omega) ⟨hX.nb, hX.sb, hnms⟩ (by have := HL.out; omega)
        clear hQL
        go_cut [7] (fun s7 wx => ∃ (A7 : Option Addr) (c7 : Nat) (L7 : List RItem), s7 = .slice A7 (n + 1) c7 ∧ plI L7 = insP P (PItem.mk nm d f ss) j ∧ OwnItems wx wq.heap.size wx.heap.size A7 (n + 1) c7 L7 ∧ Below wq.heap.size wq wx)
        case first =>
          go_region_held3 (fun W => (∀ b o, b < wq.heap.size → W.cell? ⟨b, o, none⟩ = (wq).cell? ⟨b, o, none⟩) ∧ (∀ b o, b < wq.heap.size → W.frozen? ⟨b, o, none⟩ = (wq).frozen? ⟨b, o, none⟩) ∧ Below (wq.heap.size) (wq) W) (exact keep_of (by repeat (first | (with_reducible exact Below.refl _ _) | (with_reducible assumption) | (with_reducible exact (‹_ ∧ _ ∧ Below _ _ _›).2.2) | (with_reducible refine below_drewN ?_ _) | (with_reducible refine Below.drew ?_) | ((with_reducible refine Below.alloc ?_ ?hsd _); (case hsd => (first | exact Nat.le_refl _ | (simp; done) | omega | (simp; omega) | exact (‹_ ∧ _ ∧ Below _ _ _›).2.2.size))) | ((with_reducible refine Below.setCell ?_ ?hsd _); (case hsd => (first | exact Nat.le_refl _ | (simp; done) | omega | (simp; omega) | exact (‹_ ∧ _ ∧ Below _ _ _›).2.2.size))) | ((with_reducible refine Below.trans ?_ (Below.mono (by with_reducible assumption) ?hsd)); (case hsd => (first | exact Nat.le_refl _ | (simp; done) | omega | (simp; omega) | exact (‹_ ∧ _ ∧ Below _ _ _›).2.2.size))) | exact Below.refl _ _ | assumption | exact (‹_ ∧ _ ∧ Below _ _ _›).2.2 | refine below_drewN ?_ _ | refine Below.drew ?_ | refine Below.alloc ?_ (by first | exact Nat.le_refl _ | (simp; done) | omega | (simp; omega) | exact (‹_ ∧ _ ∧ Below _ _ _›).2.2.size) _ | refine Below.setCell ?_ (by first | exact Nat.le_refl _ | (simp; done) | omega | (simp; omega) | exact (‹_ ∧ _ ∧ Below _ _ _›).2.2.size) _ | refine Below.trans ?_ (Below.mono (by assumption) (by first | exact Nat.le_refl _ | (simp; done) | omega | (simp; omega) | exact (‹_ ∧ _ ∧ Below _ _ _›).2.2.size))))) (first | (go_at_call 105; have hq := (‹_ ∧ _ ∧ Below _ _ _›).2.2; refine (i_copyItemsN B _ n c L _ ?_ ?_).mono ?_; exact hSr.below (hq.mono (by omega)); exact Nat.le_trans (by omega) hq.size; rintro e w2 ⟨A2, c2, L2, rfl, hp2, ho2, hb2⟩; have hqs2 := hq.size; have hbs2 := hb2.size; (try simp at hqs2); (try simp at hbs2); (have ho2 := ho2.wide (lo' := wq.heap.size) (hi' := w2.heap.size) (by first | exact hq.size | exact Nat.le_refl _) (Nat.le_refl _)); replace hp2 := Lib.hid hp2) | (go_at_call 106; have hq := (‹_ ∧ _ ∧ Below _ _ _›).2.2; refine (i_copied d f B Ax ss.length cx ss _ ?_ ?_).mono ?_; exact hXr.below (hq.mono (by omega)); exact Nat.le_trans (by omega) hq.size; rintro e w3 ⟨A3, c3, rfl, ho3, hb3⟩; have hqs3 := hq.size; have hbs3 := hb3.size; (try simp at hqs3); (try simp at hbs3); (have hos3 : OwnS w3 w2.heap.size w3.heap.size A3 c3 ss := (OwnS.of ho3 (Nat.le_refl _)).wide (by first | exact Nat.le_refl _ | (simp; first | done | fail)) (Nat.le_refl _)); (have ho23 : OwnItems w3 wq.heap.size w2.heap.size A2 n c2 L2 := (by first | exact ho2.below hb3 | exact ho2.drew.below hb3)); clear ho3) | (go_at_call 104; refine (ins_item wq.heap.size n c2 j _ A2 60 L2 ⟨⟨nm, d, f, ss⟩, A3, c3⟩ _ ?_ hn2 hj ?_ ?_ ?_).mono ?_; (first | exact (ho23.alloc _).row | exact (ho23.drew.alloc _).row | exact ((ho23.alloc _).drew).row); (first | (with_reducible exact blk_new_at _ _ (by first | rfl | (simp; first | done | fail))) | (with_reducible refine blk_drew ?_; with_reducible exact blk_new_at _ _ (by first | rfl | (simp; first | done | fail)))); (intro hk; have q := ho23.top _ hk; (try simp at q); omega); (first | (simp; omega) | (simp; first | done | fail) | omega); rintro e w4 ⟨A4, c4, rfl, ho4, hg4⟩; (have hj4 : OwnItems w4 wq.heap.size w4.heap.size A4 (n + 1) c4 (L2.take j ++ ⟨⟨nm, d, f, ss⟩, A3, c3⟩ :: L2.drop j) := (by first | exact OwnItems.ins (ho23.alloc _) ((hos3.alloc _).wide (Nat.le_refl _) (by simp)) (by omega) (by simp; omega) hg4 ho4 | exact OwnItems.ins (ho23.drew.alloc _) ((hos3.drew.alloc _).wide (Nat.le_refl _) (by simp)) (by omega) (by simp; omega) hg4 ho4)); (have hq := (‹_ ∧ _ ∧ Below _ _ _›).2.2; have hb14 := hq.trans (grown_below (B := wq.heap.size) hg4 (fun k hk => (ho23.row.lt k hk).1) hq.size))))
          all_goals (go_wp2_with fail)
          all_goals (go_meet)
          all_goals (
            refine ⟨A4, c4, L2.take j ++ ⟨⟨nm, d, f, ss⟩, A3, c3⟩ :: L2.drop j, rfl, ?_, ?_, ?_⟩
            rotate_left
            · first | exact hj4 | exact hj4.drew
            · first | exact hb14 | exact hb14.drew
            · rw [plI_ins, hp2.out, HP.out])
        obtain ⟨A7, c7, L7, rfl, hp7, ho7, hb5⟩ := hcut
        obtain ⟨w5, hwc⟩ : ∃ W, W = wc := ⟨_, rfl⟩
        subst hwc
        have hbw5 : Below w.heap.size w w5 := hbq0.trans (hb5.mono hwq1)
        have tok1 : True := trivial
        cases hck : catOk P
        · have HCK := Lib.hid hck
          have HR := Lib.hid (added_no1 (x := (PItem.mk nm d f ss)) hck)
          clear hck
          go_wp2_with (first | (go_at_call 107; have _t := tok1; refine (i_CatalogOk P B _ n c L _ HP.out (hS.below (hbw5.mono hB)) (Nat.le_trans hB hbw5.size)).mono ?_; rintro e w6 ⟨rfl, hb6⟩; rw [HCK.out]; clear _t tok1; (have hbw6 : Below w.heap.size w w6 := hbw5.trans (hb6.mono hbw5.size))) | (go_at_call 105; refine (u_copyItems P B _ n c L _ HP.out (hS.below (hbw6.mono hB)) (Nat.le_trans hB hbw6.size)).mono ?_; rintro e w8 ⟨A8, c8, L8, rfl, hp8, ho8, hb8⟩; (have hbw8 : Below w.heap.size w w8 := hbw6.trans (hb8.mono hbw6.size))))
          refine bodyPost_ret (v := .tuple #[.slice A8 P.length c8, .bool false]) (by simp [results, Try.results31, go_sem, *]) rfl ?_
          exact uitemsB_cast HR.out ⟨A8, c8, L8, rfl, hp8, ho8.wide hbw6.size (Nat.le_refl _), hbw8⟩
        · have HCK := Lib.hid hck
          cases hcq : catOk (insP P (PItem.mk nm d f ss) j)
          · have HCQ := Lib.hid hcq
            have HR := Lib.hid (added_no2 (x := (PItem.mk nm d f ss)) HJ.out hcq)
            clear hck hcq
            go_wp2_with (first | (go_at_call 107; have _t := tok1; refine (i_CatalogOk P B _ n c L _ HP.out (hS.below (hbw5.mono hB)) (Nat.le_trans hB hbw5.size)).mono ?_; rintro e w6 ⟨rfl, hb6⟩; rw [HCK.out]; clear _t tok1; (have hbw6 : Below w.heap.size w w6 := hbw5.trans (hb6.mono hbw5.size))) | (go_at_call 107; refine (i_CatalogOk (insP P (PItem.mk nm d f ss) j) w6.heap.size A7 (n + 1) c7 L7 _ hp7 ((ho7.below hb6).rdOk (by rw [hp7]; exact HQOK.out)) (Nat.le_refl _)).mono ?_; rintro e w7 ⟨rfl, hb7⟩; rw [HCQ.out]; (have hbw7 : Below w.heap.size w w7 := hbw6.trans (hb7.mono hbw6.size))) | (go_at_call 105; refine (u_copyItems P B _ n c L _ HP.out (hS.below (hbw7.mono hB)) (Nat.le_trans hB hbw7.size)).mono ?_; rintro e w8 ⟨A8, c8, L8, rfl, hp8, ho8, hb8⟩; (have hbw8 : Below w.heap.size w w8 := hbw7.trans (hb8.mono hbw7.size))))
            refine bodyPost_ret (v := .tuple #[.slice A8 P.length c8, .bool false]) (by simp [results, Try.results31, go_sem, *]) rfl ?_
            exact uitemsB_cast HR.out ⟨A8, c8, L8, rfl, hp8, ho8.wide hbw7.size (Nat.le_refl _), hbw8⟩
          · have HCQ := Lib.hid hcq
            have HR := Lib.hid (added_yes (x := (PItem.mk nm d f ss)) HJ.out hck hcq)
            clear hck hcq
            go_wp2_with (first | (go_at_call 107; have _t := tok1; refine (i_CatalogOk P B _ n c L _ HP.out (hS.below (hbw5.mono hB)) (Nat.le_trans hB hbw5.size)).mono ?_; rintro e w6 ⟨rfl, hb6⟩; rw [HCK.out]; clear _t tok1; (have hbw6 : Below w.heap.size w w6 := hbw5.trans (hb6.mono hbw5.size))) | (go_at_call 107; refine (i_CatalogOk (insP P (PItem.mk nm d f ss) j) w6.heap.size A7 (n + 1) c7 L7 _ hp7 ((ho7.below hb6).rdOk (by rw [hp7]; exact HQOK.out)) (Nat.le_refl _)).mono ?_; rintro e w7 ⟨rfl, hb7⟩; rw [HCQ.out]; (have hbw7 : Below w.heap.size w w7 := hbw6.trans (hb7.mono hbw6.size))))
            refine bodyPost_ret (v := .tuple #[.slice A7 (n + 1) c7, .bool true]) (by simp [results, Try.results31, go_sem, *]) rfl ?_
            refine uitemsB_cast HR.out ⟨A7, c7, L7, by rw [HQL.out], hp7, ?_, hbw7⟩
            rw [HQL.out]
            exact ((ho7.below hb6).below hb7).wide hwq1 (by have := hb6.size; have := hb7.size; omega)
      · have HS := Lib.hid (allLt_succ HN.out HX.out hq)
        go_wp2_with fail
        go_quiet (fail)
        go_wp2
        go_roundw
        case rel => exact ⟨j + 1, by omega, by go_num, HS.out, by first | exact below_drewN hb _ | exact hb | exact (by repeat (first | (with_reducible exact Below.refl _ _) | (with_reducible assumption) | (with_reducible exact (‹_ ∧ _ ∧ Below _ _ _›).2.2) | (with_reducible refine below_drewN ?_ _) | (with_reducible refine Below.drew ?_) | ((with_reducible refine Below.alloc ?_ ?hsd _); (case hsd => (first | exact Nat.le_refl _ | (simp; done) | omega | (simp; omega) | exact (‹_ ∧ _ ∧ Below _ _ _›).2.2.size))) | ((with_reducible refine Below.setCell ?_ ?hsd _); (case hsd => (first | exact Nat.le_refl _ | (simp; done) | omega | (simp; omega) | exact (‹_ ∧ _ ∧ Below _ _ _›).2.2.size))) | ((with_reducible refine Below.trans ?_ (Below.mono (by with_reducible assumption) ?hsd)); (case hsd => (first | exact Nat.le_refl _ | (simp; done) | omega | (simp; omega) | exact (‹_ ∧ _ ∧ Below _ _ _›).2.2.size))) | exact Below.refl _ _ | assumption | exact (‹_ ∧ _ ∧ Below _ _ _›).2.2 | refine below_drewN ?_ _ | refine Below.drew ?_ | refine Below.alloc ?_ (by first | exact Nat.le_refl _ | (simp; done) | omega | (simp; omega) | exact (‹_ ∧ _ ∧ Below _ _ _›).2.2.size) _ | refine Below.setCell ?_ (by first | exact Nat.le_refl _ | (simp; done) | omega | (simp; omega) | exact (‹_ ∧ _ ∧ Below _ _ _›).2.2.size) _ | refine Below.trans ?_ (Below.mono (by assumption) (by first | exact Nat.le_refl _ | (simp; done) | omega | (simp; omega) | exact (‹_ ∧ _ ∧ Below _ _ _›).2.2.size))))⟩
        case measure => simp [intOf]; omega
    · have hjn : j = n := by omega
      have HJ : Hid (posOf P (PItem.mk nm d f ss).nm = j) := posOf_at P nm j HN.out (by have := HL.out; omega) (fun x hx => by obtain ⟨h, _⟩ := List.getElem?_eq_some_iff.1 hx; have := HL.out; omega)
      have hd : decide ((j : Int) < (n : Int)) = false := decide_eq_false (by omega)
      clear hjn
      go_wp2_with fail
      go_quiet (fail)
      obtain ⟨wq, hwq⟩ : ∃ W, W = wr.drewN nq := ⟨_, rfl⟩
      have hbq0 : Below w.heap.size w wq := by rw [hwq]; exact below_drewN hbw nq
      have hkq : wq.heap[w.heap.size]? = some (.cells #[.string nm, .int .i64 d, .int .i64 f, .slice Ax ss.length cx] 60 (0, 0)) := by rw [hwq]; exact hkr
      rw [← hwq]
      clear hx0 hx1 hx2 hx3 hxl hkr hb hzr hbw hwq
      obtain ⟨hx0, hx1, hx2, hx3, hxl⟩ := blk4 hkq
      go_wp2_with fail
      have hSr := hS.below (hbq0.mono hB)
      have hXr := hX.below (hbq0.mono hB)
      have hwq1 := hbq0.size
      have hQL := insP_len P (PItem.mk nm d f ss) j (by have := HL.out; omega)
      have HQL : Hid ((insP P (PItem.mk nm d f ss) j).length = n + 1) := by unfold Hid; have := HL.out; omega
      have HQOK : Hid (OkItems (insP P (PItem.mk nm d f ss) j) 16777216) := insP_ok HPO.out (by have := HL.out; omega) ⟨hX.nb, hX.sb, hnms⟩ (by have := HL.out; omega)
      clear hQL
      go_cut [7] (fun s7 wx => ∃ (A7 : Option Addr) (c7 : Nat) (L7 : List RItem), s7 = .slice A7 (n + 1) c7 ∧ plI L7 = insP P (PItem.mk nm d f ss) j ∧ OwnItems wx wq.heap.size wx.heap.size A7 (n + 1) c7 L7 ∧ Below wq.heap.size wq wx)
      case first =>
        go_region_held3 (fun W => (∀ b o, b < wq.heap.size → W.cell? ⟨b, o, none⟩ = (wq).cell? ⟨b, o, none⟩) ∧ (∀ b o, b < wq.heap.size → W.frozen? ⟨b, o, none⟩ = (wq).frozen? ⟨b, o, none⟩) ∧ Below (wq.heap.size) (wq) W) (exact keep_of (by repeat (first | (with_reducible exact Below.refl _ _) | (with_reducible assumption) | (with_reducible exact (‹_ ∧ _ ∧ Below _ _ _›).2.2) | (with_reducible refine below_drewN ?_ _) | (with_reducible refine Below.drew ?_) | ((with_reducible refine Below.alloc ?_ ?hsd _); (case hsd => (first | exact Nat.le_refl _ | (simp; done) | omega | (simp; omega) | exact (‹_ ∧ _ ∧ Below _ _ _›).2.2.size))) | ((with_reducible refine Below.setCell ?_ ?hsd _); (case hsd => (first | exact Nat.le_refl _ | (simp; done) | omega | (simp; omega) | exact (‹_ ∧ _ ∧ Below _ _ _›).2.2.size))) | ((with_reducible refine Below.trans ?_ (Below.mono (by with_reducible assumption) ?hsd)); (case hsd => (first | exact Nat.le_refl _ | (simp; done) | omega | (simp; omega) | exact (‹_ ∧ _ ∧ Below _ _ _›).2.2.size))) | exact Below.refl _ _ | assumption | exact (‹_ ∧ _ ∧ Below _ _ _›).2.2 | refine below_drewN ?_ _ | refine Below.drew ?_ | refine Below.alloc ?_ (by first | exact Nat.le_refl _ | (simp; done) | omega | (simp; omega) | exact (‹_ ∧ _ ∧ Below _ _ _›).2.2.size) _ | refine Below.setCell ?_ (by first | exact Nat.le_refl _ | (simp; done) | omega | (simp; omega) | exact (‹_ ∧ _ ∧ Below _ _ _›).2.2.size) _ | refine Below.trans ?_ (Below.mono (by assumption) (by first | exact Nat.le_refl _ | (simp; done) | omega | (simp; omega) | exact (‹_ ∧ _ ∧ Below _ _ _›).2.2.size))))) (first | (go_at_call 105; have hq := (‹_ ∧ _ ∧ Below _ _ _›).2.2; refine (i_copyItemsN B _ n c L _ ?_ ?_).mono ?_; exact hSr.below (hq.mono (by omega)); exact Nat.le_trans (by omega) hq.size; rintro e w2 ⟨A2, c2, L2, rfl, hp2, ho2, hb2⟩; have hqs2 := hq.size; have hbs2 := hb2.size; (try simp at hqs2); (try simp at hbs2); (have ho2 := ho2.wide (lo' := wq.heap.size) (hi' := w2.heap.size) (by first | exact hq.size | exact Nat.le_refl _) (Nat.le_refl _)); replace hp2 := Lib.hid hp2) | (go_at_call 106; have hq := (‹_ ∧ _ ∧ Below _ _ _›).2.2; refine (i_copied d f B Ax ss.length cx ss _ ?_ ?_).mono ?_; exact hXr.below (hq.mono (by omega)); exact Nat.le_trans (by omega) hq.size; rintro e w3 ⟨A3, c3, rfl, ho3, hb3⟩; have hqs3 := hq.size; have hbs3 := hb3.size; (try simp at hqs3); (try simp at hbs3); (have hos3 : OwnS w3 w2.heap.size w3.heap.size A3 c3 ss := (OwnS.of ho3 (Nat.le_refl _)).wide (by first | exact Nat.le_refl _ | (simp; first | done | fail)) (Nat.le_refl _)); (have ho23 : OwnItems w3 wq.heap.size w2.heap.size A2 n c2 L2 := (by first | exact ho2.below hb3 | exact ho2.drew.below hb3)); clear ho3) | (go_at_call 104; refine (ins_item wq.heap.size n c2 j _ A2 60 L2 ⟨⟨nm, d, f, ss⟩, A3, c3⟩ _ ?_ hn2 hj ?_ ?_ ?_).mono ?_; (first | exact (ho23.alloc _).row | exact (ho23.drew.alloc _).row | exact ((ho23.alloc _).drew).row); (first | (with_reducible exact blk_new_at _ _ (by first | rfl | (simp; first | done | fail))) | (with_reducible refine blk_drew ?_; with_reducible exact blk_new_at _ _ (by first | rfl | (simp; first | done | fail)))); (intro hk; have q := ho23.top _ hk; (try simp at q); omega); (first | (simp; omega) | (simp; first | done | fail) | omega); rintro e w4 ⟨A4, c4, rfl, ho4, hg4⟩; (have hj4 : OwnItems w4 wq.heap.size w4.heap.size A4 (n + 1) c4 (L2.take j ++ ⟨⟨nm, d, f, ss⟩, A3, c3⟩ :: L2.drop j) := (by first | exact OwnItems.ins (ho23.alloc _) ((hos3.alloc _).wide (Nat.le_refl _) (by simp)) (by omega) (by simp; omega) hg4 ho4 | exact OwnItems.ins (ho23.drew.alloc _) ((hos3.drew.alloc _).wide (Nat.le_refl _) (by simp)) (by omega) (by simp; omega) hg4 ho4)); (have hq := (‹_ ∧ _ ∧ Below _ _ _›).2.2; have hb14 := hq.trans (grown_below (B := wq.heap.size) hg4 (fun k hk => (ho23.row.lt k hk).1) hq.size))))
        all_goals (go_wp2_with fail)
        all_goals (go_meet)
        all_goals (
          refine ⟨A4, c4, L2.take j ++ ⟨⟨nm, d, f, ss⟩, A3, c3⟩ :: L2.drop j, rfl, ?_, ?_, ?_⟩
          rotate_left
          · first | exact hj4 | exact hj4.drew
          · first | exact hb14 | exact hb14.drew
          · rw [plI_ins, hp2.out, HP.out])
      obtain ⟨A7, c7, L7, rfl, hp7, ho7, hb5⟩ := hcut
      obtain ⟨w5, hwc⟩ : ∃ W, W = wc := ⟨_, rfl⟩
      subst hwc
      have hbw5 : Below w.heap.size w w5 := hbq0.trans (hb5.mono hwq1)
      have tok1 : True := trivial
      cases hck : catOk P
      · have HCK := Lib.hid hck
        have HR := Lib.hid (added_no1 (x := (PItem.mk nm d f ss)) hck)
        clear hck
        go_wp2_with (first | (go_at_call 107; have _t := tok1; refine (i_CatalogOk P B _ n c L _ HP.out (hS.below (hbw5.mono hB)) (Nat.le_trans hB hbw5.size)).mono ?_; rintro e w6 ⟨rfl, hb6⟩; rw [HCK.out]; clear _t tok1; (have hbw6 : Below w.heap.size w w6 := hbw5.trans (hb6.mono hbw5.size))) | (go_at_call 105; refine (u_copyItems P B _ n c L _ HP.out (hS.below (hbw6.mono hB)) (Nat.le_trans hB hbw6.size)).mono ?_; rintro e w8 ⟨A8, c8, L8, rfl, hp8, ho8, hb8⟩; (have hbw8 : Below w.heap.size w w8 := hbw6.trans (hb8.mono hbw6.size))))
        refine bodyPost_ret (v := .tuple #[.slice A8 P.length c8, .bool false]) (by simp [results, Try.results31, go_sem, *]) rfl ?_
        exact uitemsB_cast HR.out ⟨A8, c8, L8, rfl, hp8, ho8.wide hbw6.size (Nat.le_refl _), hbw8⟩
      · have HCK := Lib.hid hck
        cases hcq : catOk (insP P (PItem.mk nm d f ss) j)
        · have HCQ := Lib.hid hcq
          have HR := Lib.hid (added_no2 (x := (PItem.mk nm d f ss)) HJ.out hcq)
          clear hck hcq
          go_wp2_with (first | (go_at_call 107; have _t := tok1; refine (i_CatalogOk P B _ n c L _ HP.out (hS.below (hbw5.mono hB)) (Nat.le_trans hB hbw5.size)).mono ?_; rintro e w6 ⟨rfl, hb6⟩; rw [HCK.out]; clear _t tok1; (have hbw6 : Below w.heap.size w w6 := hbw5.trans (hb6.mono hbw5.size))) | (go_at_call 107; refine (i_CatalogOk (insP P (PItem.mk nm d f ss) j) w6.heap.size A7 (n + 1) c7 L7 _ hp7 ((ho7.below hb6).rdOk (by rw [hp7]; exact HQOK.out)) (Nat.le_refl _)).mono ?_; rintro e w7 ⟨rfl, hb7⟩; rw [HCQ.out]; (have hbw7 : Below w.heap.size w w7 := hbw6.trans (hb7.mono hbw6.size))) | (go_at_call 105; refine (u_copyItems P B _ n c L _ HP.out (hS.below (hbw7.mono hB)) (Nat.le_trans hB hbw7.size)).mono ?_; rintro e w8 ⟨A8, c8, L8, rfl, hp8, ho8, hb8⟩; (have hbw8 : Below w.heap.size w w8 := hbw7.trans (hb8.mono hbw7.size))))
          refine bodyPost_ret (v := .tuple #[.slice A8 P.length c8, .bool false]) (by simp [results, Try.results31, go_sem, *]) rfl ?_
          exact uitemsB_cast HR.out ⟨A8, c8, L8, rfl, hp8, ho8.wide hbw7.size (Nat.le_refl _), hbw8⟩
        · have HCQ := Lib.hid hcq
          have HR := Lib.hid (added_yes (x := (PItem.mk nm d f ss)) HJ.out hck hcq)
          clear hck hcq
          go_wp2_with (first | (go_at_call 107; have _t := tok1; refine (i_CatalogOk P B _ n c L _ HP.out (hS.below (hbw5.mono hB)) (Nat.le_trans hB hbw5.size)).mono ?_; rintro e w6 ⟨rfl, hb6⟩; rw [HCK.out]; clear _t tok1; (have hbw6 : Below w.heap.size w w6 := hbw5.trans (hb6.mono hbw5.size))) | (go_at_call 107; refine (i_CatalogOk (insP P (PItem.mk nm d f ss) j) w6.heap.size A7 (n + 1) c7 L7 _ hp7 ((ho7.below hb6).rdOk (by rw [hp7]; exact HQOK.out)) (Nat.le_refl _)).mono ?_; rintro e w7 ⟨rfl, hb7⟩; rw [HCQ.out]; (have hbw7 : Below w.heap.size w w7 := hbw6.trans (hb7.mono hbw6.size))))
          refine bodyPost_ret (v := .tuple #[.slice A7 (n + 1) c7, .bool true]) (by simp [results, Try.results31, go_sem, *]) rfl ?_
          refine uitemsB_cast HR.out ⟨A7, c7, L7, by rw [HQL.out], hp7, ?_, hbw7⟩
          rw [HQL.out]
          exact ((ho7.below hb6).below hb7).wide hwq1 (by have := hb6.size; have := hb7.size; omega)
end Go.Proofs.Ytmmohnbmoilaaaa
