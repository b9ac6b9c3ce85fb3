/- FnCatalogs: the walk. -/
import Derived.BigQuiet
import Derived.Lib.QuietBelow
import Derived.Test.YtccjedongkokoaaRows
import Derived.Test.YtccjedongkokoaaQCai
import Derived.Test.YtccjedongkokoaaQCag
import Derived.Test.YtccjedongkokoaaQCl
import Derived.Test.YtccjedongkokoaaQCu
import Derived.Test.YtccjedongkokoaaQCz
namespace Go.Proofs.Ytccjedongkokoaa.fnCatalogs
open Go.ChangeShapes Go.WideShapes Go.ChangeAt Go.RowKit
set_option linter.unusedVariables false
set_option linter.unusedSimpArgs false
set_option maxRecDepth 10000
theorem w64 {x : Int} (h : -9223372036854775808 ≤ x ∧ x ≤ 9223372036854775807) : IntKind.i64.wrap x = x := by rw [IntKind.wrap_i64]; omega
def gd (Z : List PItem) (i : Nat) : Bool := match (twRes Z)[i]? with
  | none => false
  | some p => match Z[p.1]?, Z[p.2]? with
    | some x, some y => decide (x.nm = owl) && decide (y.nm = wren)
    | _, _ => false
theorem eqb (a b : ByteArray) : (a.toList == b.toList) = decide (a = b) := by
  by_cases q : a = b
  · rw [beq_toList_true q, decide_eq_true q]
  · rw [beq_toList_false q, decide_eq_false q]
theorem eq_owl (x : ByteArray) : (x.toList == [111, 119, 108]) = decide (x = owl) := by
  have e : owl.toList = [111, 119, 108] := by rw [ByteArray.toList_eq]; rfl
  rw [← e]; exact eqb x owl
theorem eq_wren (x : ByteArray) : (x.toList == [119, 114, 101, 110]) = decide (x = wren) := by
  have e : wren.toList = [119, 114, 101, 110] := by rw [ByteArray.toList_eq]; rfl
  rw [← e]; exact eqb x wren
theorem any_succ (g : Nat → Bool) (k : Nat) : (List.range (k + 1)).any g = ((List.range k).any g || g k) := by
  rw [List.range_succ, List.any_append]; simp
set_option maxHeartbeats 25600000 in
theorem walkCatalogs (A : Option Addr) (c : Nat) (bs : List Int) (w : World) (hK : Code w w.heap.size A bs) :
    Calls Try.prog 5 #[.slice A bs.length c] w fun e w' => e = .returned (.bool true) ∧ Below w.heap.size w w' := by
  have hnb := hK.nb
  have hd : decide (1048576 < bs.length) = false := by simp; omega
  go_enter Try.func5, Try.ntmps5
  go_wp2_with (go_at_call 7; refine (l_big _ _ _ _ (by omega)).mono ?_; rw [hd]; rintro e w' ⟨rfl, rfl⟩)
  refine (s_DrawCatalog w.heap.size A c bs w hK (Nat.le_refl _)).mono ?_
  rintro e w1 ⟨P, A1, c1, L1, hD, hp1, rfl, o1, hb1⟩
  have hs1 := hb1.size
  have hokP := items_more (cat_items hD.ok)
  have IP := o1.rdP hp1 hokP
  obtain ⟨np, hnp⟩ : ∃ x, P.length = x := ⟨_, rfl⟩
  have hnp5 : np ≤ 5 := by have := hD.len; omega
  rw [hnp] at IP ⊢
  clear o1
  go_wp2_with fail
  refine (s_DrawCard w.heap.size A c bs w1 (hK.below hb1) hs1).mono ?_
  rintro e w2 ⟨d, f, ss, A', c', hbd, hss, rfl, o2, hb2⟩
  have hcd := drew_cardOk hbd hss
  have hsz : ∀ x ∈ ss, x.size ≤ 16777216 := fun x hx => by have := (hss x hx).2.2; omega
  have SC : Strs w2 w2.heap.size A' ss.length ss := o2.rd (by omega) hsz
  have hbw2 : Below w.heap.size w w2 := hb1.trans (hb2.mono hs1)
  have hs2 := hbw2.size
  have gP_w2 : Below w1.heap.size w1 w2 := hb2
  obtain ⟨n, hn⟩ : ∃ n, ss.length = n := ⟨_, rfl⟩
  have HNN := Lib.hid hn
  have hn6 := hbd.2.2.2.2
  rw [hn] at SC hn6 ⊢
  obtain ⟨Q, Z, hl⟩ := catLaw hD (by omega) hcd
  have hokQ : catOk Q = true := by
    have := added_cat (P := P) (x := ⟨owl, d, f, ss⟩) (by rw [hl.q])
    rw [hl.q] at this
    exact this
  have hiQ := items_more (cat_items hokQ)
  have hiZ := items_more (cat_items hl.ok)
  have hQ20 := (catOk_iff.1 hokQ).1
  have hZ20 := (catOk_iff.1 hl.ok).1
  obtain ⟨nq, hnq⟩ : ∃ x, Q.length = x := ⟨_, rfl⟩
  obtain ⟨nz, hnz⟩ : ∃ x, Z.length = x := ⟨_, rfl⟩
  have hnz2 : nz ≤ np + 2 ∧ np + 2 ≤ nz := by have := hl.len; omega
  rw [hnq] at hQ20
  rw [hnz] at hZ20
  have hsr : ∀ x ∈ ss.reverse, x.size ≤ 16777216 := fun x hx => hsz x (List.mem_reverse.1 hx)
  have kA1 : ∀ W : World, Items W W.heap.size A1 np L1 → Strs W W.heap.size A' n ss → Calls Try.prog 30 #[.slice A1 np c1, .agg #[.string owl, .int .i64 (d : Int), .int .i64 (f : Int), .slice A' n c']] W fun e w' => ∃ A2 c2 L2, e = .returned (.tuple #[.slice A2 nq c2, .bool true]) ∧ plI L2 = Q ∧ Items w' w'.heap.size A2 nq L2 ∧ Below W.heap.size W w' := by
    intro W h1 h2
    have q := i_AddItem owl d f A' c' ss P W.heap.size A1 np c1 L1 W hp1 h1 (by rw [hn]; exact h2) (by decide) (Nat.le_refl _) (by omega)
    rw [hl.q, hn] at q
    refine q.mono ?_
    rintro e w' ⟨A2, c2, L2, rfl, hp, ho, hb⟩
    have hI := ho.rdP hp hiQ
    simp only [hnq] at hI ⊢
    exact ⟨A2, c2, L2, rfl, hp, hI, hb⟩
  have kN1 : ∀ (W : World) (A2 : Option Addr) (c2 : Nat) (L2 : List RItem), plI L2 = Q → Items W W.heap.size A2 nq L2 → Calls Try.prog 31 #[.slice A2 nq c2, .string owl] W fun e w' => ∃ A3 c3, e = .returned (.tuple #[.agg #[.int .i64 (d : Int), .int .i64 (f : Int), .slice A3 n c3], .bool true]) ∧ Strs w' w'.heap.size A3 n ss ∧ Below W.heap.size W w' := by
    intro W A2 c2 L2 hp h1
    have q := i_CardNamed owl Q W.heap.size A2 nq c2 L2 W hp h1 (Nat.le_refl _)
    rw [hl.n] at q
    refine q.mono ?_
    rintro e w' ⟨A3, c3, rfl, ho, hb⟩
    have ho9 : OwnS w' W.heap.size w'.heap.size A3 c3 ss := ho
    have hr := ho9.rd (by omega) hsz
    simp only [hn] at hr ⊢
    exact ⟨A3, c3, rfl, hr, hb⟩
  have kD1 : ∀ (W : World) (A2 : Option Addr) (c2 : Nat) (L2 : List RItem), plI L2 = Q → Items W W.heap.size A2 nq L2 → Calls Try.prog 32 #[.slice A2 nq c2, .string owl] W fun e w' => ∃ A4 c4 L4, e = .returned (.tuple #[.slice A4 np c4, .bool true]) ∧ plI L4 = P ∧ Items w' w'.heap.size A4 np L4 ∧ Below W.heap.size W w' := by
    intro W A2 c2 L2 hp h1
    have q := i_DropItem owl Q W.heap.size A2 nq c2 L2 W hp h1 (Nat.le_refl _)
    rw [hl.dr] at q
    refine q.mono ?_
    rintro e w' ⟨A4, c4, L4, rfl, hp4, ho, hb⟩
    have hI := ho.rdP hp4 hokP
    simp only [hnp] at hI ⊢
    exact ⟨A4, c4, L4, rfl, hp4, hI, hb⟩
  have kN2 : ∀ (W : World) (A4 : Option Addr) (c4 : Nat) (L4 : List RItem), plI L4 = P → Items W W.heap.size A4 np L4 → Calls Try.prog 31 #[.slice A4 np c4, .string owl] W fun e w' => ∃ A5 c5, e = .returned (.tuple #[.agg #[.int .i64 0, .int .i64 0, .slice A5 0 c5], .bool false]) ∧ Below W.heap.size W w' := by
    intro W A4 c4 L4 hp h1
    have q := i_CardNamed owl P W.heap.size A4 np c4 L4 W hp h1 (Nat.le_refl _)
    rw [hl.g] at q
    refine q.mono ?_
    rintro e w' ⟨A5, c5, rfl, ho, hb⟩
    exact ⟨A5, c5, rfl, hb⟩
  have kM : ∀ W : World, Strs W W.heap.size A' n ss → Calls Try.prog 22 #[.agg #[.int .i64 (d : Int), .int .i64 (f : Int), .slice A' n c']] W fun e w' => ∃ A6 c6, e = .returned (.agg #[.int .i64 (d : Int), .int .i64 (f : Int), .slice A6 n c6]) ∧ Strs w' w'.heap.size A6 n ss.reverse ∧ Below W.heap.size W w' := by
    intro W h
    have q := s_MirrorCard d f W.heap.size A' n c' ss W h (Nat.le_refl _)
    have hm : mirrorRes (d : Int) f ss = ((d : Int), (f : Int), ss.reverse) := by unfold mirrorRes; rw [hcd]; rfl
    rw [hm] at q
    refine q.mono ?_
    rintro e w' ⟨A6, c6, h1, h2, h3⟩
    simp only [List.length_reverse, hn] at h1 h2
    exact ⟨A6, c6, h1, strs_of_own h2 (by omega) hsr, h3⟩
  have kA2 : ∀ (W : World) (A2 A6 : Option Addr) (c2 c6 : Nat) (L2 : List RItem), plI L2 = Q → Items W W.heap.size A2 nq L2 → Strs W W.heap.size A6 n ss.reverse → Calls Try.prog 30 #[.slice A2 nq c2, .agg #[.string wren, .int .i64 (d : Int), .int .i64 (f : Int), .slice A6 n c6]] W fun e w' => ∃ A7 c7 L7, e = .returned (.tuple #[.slice A7 nz c7, .bool true]) ∧ plI L7 = Z ∧ Items w' w'.heap.size A7 nz L7 ∧ Below W.heap.size W w' := by
    intro W A2 A6 c2 c6 L2 hp h1 h2
    have hrl : ss.reverse.length = n := by rw [List.length_reverse]; exact hn
    have q := i_AddItem wren d f A6 c6 ss.reverse Q W.heap.size A2 nq c2 L2 W hp h1 (by rw [hrl]; exact h2) (by decide) (Nat.le_refl _) (by omega)
    rw [hl.z, hrl] at q
    refine q.mono ?_
    rintro e w' ⟨A7, c7, L7, rfl, hp7, ho, hb⟩
    have hI := ho.rdP hp7 hiZ
    simp only [hnz] at hI ⊢
    exact ⟨A7, c7, L7, rfl, hp7, hI, hb⟩
  have kA3 : ∀ (W : World) (A2 : Option Addr) (c2 : Nat) (L2 : List RItem), plI L2 = Q → Items W W.heap.size A2 nq L2 → Strs W W.heap.size A' n ss → Calls Try.prog 30 #[.slice A2 nq c2, .agg #[.string owl, .int .i64 (d : Int), .int .i64 (f : Int), .slice A' n c']] W fun e w' => ∃ A8 c8, e = .returned (.tuple #[.slice A8 nq c8, .bool false]) ∧ Below W.heap.size W w' := by
    intro W A2 c2 L2 hp h1 h2
    have q := i_AddItem owl d f A' c' ss Q W.heap.size A2 nq c2 L2 W hp h1 (by rw [hn]; exact h2) (by decide) (Nat.le_refl _) (by omega)
    rw [hl.tw, hn] at q
    refine q.mono ?_
    rintro e w' ⟨A8, c8, L8, rfl, hp8, ho, hb⟩
    simp only [hnq]
    exact ⟨A8, c8, rfl, hb⟩
  have kS : ∀ (W : World) (d2 f2 : Int) (xs : List ByteArray) (P2 Q2 : Option Addr) (m p2 q2 : Nat), Strs W W.heap.size P2 m xs → Strs W W.heap.size Q2 m xs → Calls Try.prog 28 #[.agg #[.int .i64 d2, .int .i64 f2, .slice P2 m p2], .agg #[.int .i64 d2, .int .i64 f2, .slice Q2 m q2]] W fun e w' => e = .returned (.bool true) ∧ Below W.heap.size W w' := by
    intro W d2 f2 xs P2 Q2 m p2 q2 h1 h2
    have q := s_SameCard d2 f2 d2 f2 W.heap.size P2 Q2 m p2 m q2 xs xs W h1 h2 (Nat.le_refl _)
    rw [sameCard_iff.2 ⟨rfl, rfl, rfl⟩] at q
    exact q
  have kOk : ∀ (W : World) (A7 : Option Addr) (c7 : Nat) (L7 : List RItem), plI L7 = Z → Items W W.heap.size A7 nz L7 → Calls Try.prog 33 #[.slice A7 nz c7] W fun e w' => e = .returned (.bool true) ∧ Below W.heap.size W w' := by
    intro W A7 c7 L7 hp h
    have q := i_CatalogOk Z W.heap.size A7 nz c7 L7 W hp h (Nat.le_refl _)
    rw [hl.ok] at q
    exact q
  have kT : ∀ (W : World) (A7 : Option Addr) (c7 : Nat) (L7 : List RItem), plI L7 = Z → Items W W.heap.size A7 nz L7 → Calls Try.prog 34 #[.slice A7 nz c7] W fun e w' => ∃ At Nt ct bt, e = .returned (.slice At Nt ct) ∧ OwnPP w' W.heap.size w'.heap.size At Nt ct (twRes Z) bt ∧ Below W.heap.size W w' := fun W A7 c7 L7 hp h => i_TwinsIn Z W.heap.size A7 nz c7 L7 W hp h (Nat.le_refl _)
  have kW1 : ∀ (W : World) (A7 : Option Addr) (c7 : Nat) (L7 : List RItem), plI L7 = Z → Items W W.heap.size A7 nz L7 → Calls Try.prog 35 #[.slice A7 nz c7, .string ⟨#[]⟩] W fun e w' => ∃ A9 c9, e = .returned (.slice A9 nz c9) ∧ Below W.heap.size W w' := by
    intro W A7 c7 L7 hp h
    refine (i_NamesWith ⟨#[]⟩ Z W.heap.size A7 nz c7 L7 W hp h (Nat.le_refl _) hl.ok).mono ?_
    rintro e w' ⟨A9, N9, c9, rfl, h9, hb⟩
    have : N9 = nz := by rw [h9, ← hnz]; exact hl.all
    subst this
    exact ⟨A9, c9, rfl, hb⟩
  have kW2 : ∀ (W : World) (A7 : Option Addr) (c7 : Nat) (L7 : List RItem), plI L7 = Z → Items W W.heap.size A7 nz L7 → Calls Try.prog 35 #[.slice A7 nz c7, .string preB] W fun e w' => ∃ A9 c9, e = .returned (.slice A9 1 c9) ∧ Below W.heap.size W w' := by
    intro W A7 c7 L7 hp h
    refine (i_NamesWith preB Z W.heap.size A7 nz c7 L7 W hp h (Nat.le_refl _) hl.ok).mono ?_
    rintro e w' ⟨A9, N9, c9, rfl, h9, hb⟩
    have : N9 = 1 := by rw [h9]; exact hl.one
    subst this
    exact ⟨A9, c9, rfl, hb⟩
  have kO1 : ∀ W : World, Calls Try.prog 36 #[.string owl] W fun e w' => e = .returned (.bool true) ∧ W = w' := fun W => by
    have q := i_NameOk owl W (by decide)
    rw [owl_ok] at q
    exact q
  have kO2 : ∀ W : World, Calls Try.prog 36 #[.string ⟨#[79, 119, 108]⟩] W fun e w' => e = .returned (.bool false) ∧ W = w' := fun W => by
    have q := i_NameOk ⟨#[79, 119, 108]⟩ W (by decide)
    rw [show nameOk ⟨#[79, 119, 108]⟩ = false by decide] at q
    exact q
  have heach := hl.each
  obtain ⟨ip, hip, xp, yp, hxp, hyp, hxn, hyn⟩ := hl.pr
  have hgd : gd Z ip = true := by
    unfold gd
    rw [List.getElem?_eq_getElem hip]
    simp only [hxp, hyp, hxn, hyn]
    decide
  have HGD := Lib.hid hgd
  have HIP := Lib.hid hip
  have HEA := hide heach
  have HA1 := hide kA1
  have HN1 := hide kN1
  have HD1 := hide kD1
  have HN2 := hide kN2
  have HM := hide kM
  have HA2 := hide kA2
  have HA3 := hide kA3
  have HS := hide kS
  have HOK := hide kOk
  have HT := hide kT
  have HW1 := hide kW1
  have HW2 := hide kW2
  have HO1 := hide kO1
  have HO2 := hide kO2
  have HP1 := Lib.hid hp1
  have HNZ := Lib.hid hnz
  clear kA1 kN1 kD1 kN2 kM kA2 kA3 kS kOk kT kW1 kW2 kO1 kO2 heach hl hgd hip hxp hyp hxn hyn hokQ hiQ hiZ hQ20 hsr hsz hcd hss o2 hD hokP hp1 hn hnp hnq hnz hb2
  go_wp2_with fail
  have kC_w3 := blk_new w2 (.cells #[.int .i64 (d : Int), .int .i64 (f : Int), .slice A' n c'] 26)
  have hb_w3 : Below w2.heap.size w2 (w2.alloc (.cells #[.int .i64 (d : Int), .int .i64 (f : Int), .slice A' n c'] 26)) := bel
  have gP_w3 := gP_w2.trans (hb_w3.mono gP_w2.size)
  clear gP_w2
  have gC_w3 := hb_w3
  generalize (w2.alloc (.cells #[.int .i64 (d : Int), .int .i64 (f : Int), .slice A' n c'] 26)) = w3 at *
  refine (HA1.out w3 ((IP.below gP_w3).more gP_w3.size) ((SC.below gC_w3).more gC_w3.size)).mono ?_
  rintro e w4 ⟨A2, c2, L2, rfl, HQ, IQ, hb_w4⟩
  have gP_w4 := gP_w3.trans (hb_w4.mono gP_w3.size)
  clear gP_w3
  have kC_w4 := blk_next kC_w3 hb_w4
  clear kC_w3
  have gC_w4 := gC_w3.trans (hb_w4.mono gC_w3.size)
  clear gC_w3
  have gQ_w4 := Below.refl w4.heap.size w4
  have HPQ := Lib.hid HQ; clear HQ
  go_wp2_with fail
  refine (HN1.out w4 A2 c2 L2 HPQ.out ((IQ.below gQ_w4).more gQ_w4.size)).mono ?_
  rintro e w5 ⟨A3, c3, rfl, SD, hb_w5⟩
  have gP_w5 := gP_w4.trans (hb_w5.mono gP_w4.size)
  clear gP_w4
  have kC_w5 := blk_next kC_w4 hb_w5
  clear kC_w4
  have gC_w5 := gC_w4.trans (hb_w5.mono gC_w4.size)
  clear gC_w4
  have gQ_w5 := gQ_w4.trans (hb_w5.mono gQ_w4.size)
  clear gQ_w4
  go_wp2_with fail
  have kD_w6 := blk_new w5 (.cells #[.int .i64 (d : Int), .int .i64 (f : Int), .slice A3 n c3] 26)
  have hb_w6 : Below w5.heap.size w5 (w5.alloc (.cells #[.int .i64 (d : Int), .int .i64 (f : Int), .slice A3 n c3] 26)) := bel
  have gP_w6 := gP_w5.trans (hb_w6.mono gP_w5.size)
  clear gP_w5
  have kC_w6 := blk_next kC_w5 hb_w6
  clear kC_w5
  have gC_w6 := gC_w5.trans (hb_w6.mono gC_w5.size)
  clear gC_w5
  have gQ_w6 := gQ_w5.trans (hb_w6.mono gQ_w5.size)
  clear gQ_w5
  have gD_w6 := hb_w6
  generalize (w5.alloc (.cells #[.int .i64 (d : Int), .int .i64 (f : Int), .slice A3 n c3] 26)) = w6 at *
  refine (HD1.out w6 A2 c2 L2 HPQ.out ((IQ.below gQ_w6).more gQ_w6.size)).mono ?_
  rintro e w7 ⟨A4, c4, L4, rfl, HY, IY, hb_w7⟩
  have gP_w7 := gP_w6.trans (hb_w7.mono gP_w6.size)
  clear gP_w6
  have kC_w7 := blk_next kC_w6 hb_w7
  clear kC_w6
  have gC_w7 := gC_w6.trans (hb_w7.mono gC_w6.size)
  clear gC_w6
  have gQ_w7 := gQ_w6.trans (hb_w7.mono gQ_w6.size)
  clear gQ_w6
  have kD_w7 := blk_next kD_w6 hb_w7
  clear kD_w6
  have gD_w7 := gD_w6.trans (hb_w7.mono gD_w6.size)
  clear gD_w6
  have gY_w7 := Below.refl w7.heap.size w7
  have HPY := Lib.hid HY; clear HY
  go_wp2_with fail
  refine (HN2.out w7 A4 c4 L4 HPY.out ((IY.below gY_w7).more gY_w7.size)).mono ?_
  rintro e w8 ⟨A5, c5, rfl, hb_w8⟩
  have gP_w8 := gP_w7.trans (hb_w8.mono gP_w7.size)
  clear gP_w7
  have kC_w8 := blk_next kC_w7 hb_w8
  clear kC_w7
  have gC_w8 := gC_w7.trans (hb_w8.mono gC_w7.size)
  clear gC_w7
  have gQ_w8 := gQ_w7.trans (hb_w8.mono gQ_w7.size)
  clear gQ_w7
  have kD_w8 := blk_next kD_w7 hb_w8
  clear kD_w7
  have gD_w8 := gD_w7.trans (hb_w8.mono gD_w7.size)
  clear gD_w7
  have gY_w8 := gY_w7.trans (hb_w8.mono gY_w7.size)
  clear gY_w7
  obtain ⟨hC0, hC1, hC2, hCl⟩ := blk3 kC_w8
  go_wp2_with fail
  clear hC0 hC1 hC2 hCl
  have kG_w9 := blk_new w8 (.cells #[.int .i64 0, .int .i64 0, .slice A5 0 c5] 26)
  have hb_w9 : Below w8.heap.size w8 (w8.alloc (.cells #[.int .i64 0, .int .i64 0, .slice A5 0 c5] 26)) := bel
  have gP_w9 := gP_w8.trans (hb_w9.mono gP_w8.size)
  clear gP_w8
  have kC_w9 := blk_next kC_w8 hb_w9
  clear kC_w8
  have gC_w9 := gC_w8.trans (hb_w9.mono gC_w8.size)
  clear gC_w8
  have gQ_w9 := gQ_w8.trans (hb_w9.mono gQ_w8.size)
  clear gQ_w8
  have kD_w9 := blk_next kD_w8 hb_w9
  clear kD_w8
  have gD_w9 := gD_w8.trans (hb_w9.mono gD_w8.size)
  clear gD_w8
  have gY_w9 := gY_w8.trans (hb_w9.mono gY_w8.size)
  clear gY_w8
  have gG_w9 := hb_w9
  generalize (w8.alloc (.cells #[.int .i64 0, .int .i64 0, .slice A5 0 c5] 26)) = w9 at *
  refine (HM.out w9 ((SC.below gC_w9).more gC_w9.size)).mono ?_
  rintro e w10 ⟨A6, c6, rfl, SR, hb_w10⟩
  have gP_w10 := gP_w9.trans (hb_w10.mono gP_w9.size)
  clear gP_w9
  have kC_w10 := blk_next kC_w9 hb_w10
  clear kC_w9
  have gC_w10 := gC_w9.trans (hb_w10.mono gC_w9.size)
  clear gC_w9
  have gQ_w10 := gQ_w9.trans (hb_w10.mono gQ_w9.size)
  clear gQ_w9
  have kD_w10 := blk_next kD_w9 hb_w10
  clear kD_w9
  have gD_w10 := gD_w9.trans (hb_w10.mono gD_w9.size)
  clear gD_w9
  have gY_w10 := gY_w9.trans (hb_w10.mono gY_w9.size)
  clear gY_w9
  have kG_w10 := blk_next kG_w9 hb_w10
  clear kG_w9
  have gG_w10 := gG_w9.trans (hb_w10.mono gG_w9.size)
  clear gG_w9
  go_wp2_with fail
  refine (HA2.out w10 A2 A6 c2 c6 L2 HPQ.out ((IQ.below gQ_w10).more gQ_w10.size) SR).mono ?_
  rintro e w11 ⟨A7, c7, L7, rfl, HZ, IZ, hb_w11⟩
  have gP_w11 := gP_w10.trans (hb_w11.mono gP_w10.size)
  clear gP_w10
  have kC_w11 := blk_next kC_w10 hb_w11
  clear kC_w10
  have gC_w11 := gC_w10.trans (hb_w11.mono gC_w10.size)
  clear gC_w10
  have gQ_w11 := gQ_w10.trans (hb_w11.mono gQ_w10.size)
  clear gQ_w10
  have kD_w11 := blk_next kD_w10 hb_w11
  clear kD_w10
  have gD_w11 := gD_w10.trans (hb_w11.mono gD_w10.size)
  clear gD_w10
  have gY_w11 := gY_w10.trans (hb_w11.mono gY_w10.size)
  clear gY_w10
  have kG_w11 := blk_next kG_w10 hb_w11
  clear kG_w10
  have gG_w11 := gG_w10.trans (hb_w11.mono gG_w10.size)
  clear gG_w10
  clear SR
  have gZ_w11 := Below.refl w11.heap.size w11
  have HPZ := Lib.hid HZ; clear HZ
  clear kG_w11 gG_w11
  have hwz : IntKind.i64.wrap ((np : Int) + 2) = (np : Int) + 2 := w64 (by omega)
  have hnzI : ((nz : Int) == (np : Int) + 2) = true := by rw [beq_iff_eq]; omega
  have hnzJ : decide ((nz : Int) = (np : Int) + 2) = true := decide_eq_true (by omega)
  obtain ⟨hC0, hC1, hC2, hCl⟩ := blk3 kC_w11
  obtain ⟨hD0, hD1, hD2, hDl⟩ := blk3 kD_w11
  go_wp2_with fail
  clear hC0 hC1 hC2 hCl hD0 hD1 hD2 hDl
  refine (HS.out w11 d f ss A3 A' n c3 c' ((SD.below gD_w11).more gD_w11.size) ((SC.below gC_w11).more gC_w11.size)).mono ?_
  rintro e w12 ⟨rfl, hb_w12⟩
  have gP_w12 := gP_w11.trans (hb_w12.mono gP_w11.size)
  clear gP_w11
  have kC_w12 := blk_next kC_w11 hb_w12
  clear kC_w11
  have gC_w12 := gC_w11.trans (hb_w12.mono gC_w11.size)
  clear gC_w11
  have gQ_w12 := gQ_w11.trans (hb_w12.mono gQ_w11.size)
  clear gQ_w11
  have kD_w12 := blk_next kD_w11 hb_w12
  clear kD_w11
  have gD_w12 := gD_w11.trans (hb_w12.mono gD_w11.size)
  clear gD_w11
  have gY_w12 := gY_w11.trans (hb_w12.mono gY_w11.size)
  clear gY_w11
  have gZ_w12 := gZ_w11.trans (hb_w12.mono gZ_w11.size)
  clear gZ_w11
  go_wp2_with fail
  refine (HOK.out w12 A7 c7 L7 HPZ.out ((IZ.below gZ_w12).more gZ_w12.size)).mono ?_
  rintro e w13 ⟨rfl, hb_w13⟩
  have gP_w13 := gP_w12.trans (hb_w13.mono gP_w12.size)
  clear gP_w12
  have kC_w13 := blk_next kC_w12 hb_w13
  clear kC_w12
  have gC_w13 := gC_w12.trans (hb_w13.mono gC_w12.size)
  clear gC_w12
  have gQ_w13 := gQ_w12.trans (hb_w13.mono gQ_w12.size)
  clear gQ_w12
  have kD_w13 := blk_next kD_w12 hb_w13
  clear kD_w12
  have gD_w13 := gD_w12.trans (hb_w13.mono gD_w12.size)
  clear gD_w12
  have gY_w13 := gY_w12.trans (hb_w13.mono gY_w12.size)
  clear gY_w12
  have gZ_w13 := gZ_w12.trans (hb_w13.mono gZ_w12.size)
  clear gZ_w12
  clear kD_w13 gD_w13
  go_wp2
  clear hnzI hnzJ hwz
  go_loopw [15] (fun i wr => ∃ (j : Nat), j ≤ np ∧ i = .int .i64 (j : Int) ∧ Below w13.heap.size w13 wr) (fun i _ => np - (intOf i).toNat)
  case atStart => exact ⟨0, Nat.zero_le _, rfl, Below.refl _ _⟩
  case round =>
    obtain ⟨j, hj, rfl, hbr⟩ := hrel
    have gP_wr := gP_w13.trans (hbr.mono gP_w13.size)
    clear gP_w13
    have kC_wr := blk_next kC_w13 hbr
    clear kC_w13
    have gC_wr := gC_w13.trans (hbr.mono gC_w13.size)
    clear gC_w13
    have gQ_wr := gQ_w13.trans (hbr.mono gQ_w13.size)
    clear gQ_w13
    have gY_wr := gY_w13.trans (hbr.mono gY_w13.size)
    clear gY_w13
    have gZ_wr := gZ_w13.trans (hbr.mono gZ_w13.size)
    clear gZ_w13
    by_cases hlt : j < np
    · skip
      obtain ⟨hk1, ad1, rfl, hab1, e0, e1, e2, e3, hSx, hnx⟩ := ((IY.below gY_wr).more gY_wr.size).at_ (k := j) hlt
      obtain ⟨hk2, ad2, rfl, hab2, f0, f1, f2, f3, hSy, hny⟩ := ((IP.below gP_wr).more gP_wr.size).at_ (k := j) hlt
      have hxy : L4[j].x = L1[j].x := plI_get (by rw [HPY.out, HP1.out]) hk1 hk2
      obtain ⟨⟨x1, Ax, cx⟩, hX⟩ : ∃ X, L4[j] = X := ⟨_, rfl⟩
      obtain ⟨⟨y1, Ay, cy⟩, hY⟩ : ∃ Y, L1[j] = Y := ⟨_, rfl⟩
      rw [hX] at e0 e1 e2 e3 hSx hnx hxy
      rw [hY] at f0 f1 f2 f3 hSy hny hxy
      simp only at hxy
      subst hxy
      obtain ⟨nx, dx, fx, sx⟩ := x1
      simp only at e0 e1 e2 e3 hSx hnx f0 f1 f2 f3 hSy hny
      obtain ⟨lx, hlx⟩ : ∃ x, sx.length = x := ⟨_, rfl⟩
      rw [hlx] at e3 hSx f3 hSy
      clear hX hY hlx
      have hq1 : (ad1.add (j * 4)).block < wr.heap.size := by rw [block_of_add]; omega
      have hq2 : (ad2.add (j * 4)).block < wr.heap.size := by rw [block_of_add]; omega
      have hjn : (j : Int) < (np : Int) := by omega
      have hbW := fun d_ os => below_regrown wr d_ os
      have zS := hide (fun d_ os => Calls.regrown_of (HS.out (Go.Sort.grow (redrawn wr d_) os) dx fx sx Ax Ay lx cx cy ((hSx.below (hbW d_ os)).more (hbW d_ os).size) ((hSy.below (hbW d_ os)).more (hbW d_ os).size)))
      have re0 := cell_regrown e0
      have re1 := cell_regrown e1
      have re2 := cell_regrown e2
      have re3 := cell_regrown e3
      have rf0 := cell_regrown f0
      have rf1 := cell_regrown f1
      have rf2 := cell_regrown f2
      have rf3 := cell_regrown f3
      go_wp2_with fail
      refine wp_region_quiet_below (by kernel_rfl) (lexB_of (by kernel_rfl)) ?_
      try dsimp only [List.append]
      repeat (go_big_quiet_step (first | (go_at_call 28; exact zS.out _ _)))
      refine wpQuiet_nil ?_
      intro _ hw'
      obtain ⟨⟨dq, osq⟩, hw''⟩ := hw'
      subst hw''
      have hbg := below_regrown wr dq osq
      clear zS re0 re1 re2 re3 rf0 rf1 rf2 rf3 e0 e1 e2 e3 f0 f1 f2 f3 hbW
      generalize Go.Sort.grow (redrawn wr dq) osq = wz at *
      go_wp2
      go_roundw
      case rel => exact ⟨j + 1, by omega, by go_num, hbr.trans (hbg.mono hbr.size)⟩
      case measure => simp [intOf]; omega
    · have hjn : j = np := by omega
      subst hjn
      go_wp2_with fail
      refine (HT.out wr A7 c7 L7 HPZ.out ((IZ.below gZ_wr).more gZ_wr.size)).mono ?_
      rintro e w14 ⟨At, Nt, ct, bt, rfl, hT, hb_w14⟩
      have gP_w14 := gP_wr.trans (hb_w14.mono gP_wr.size)
      clear gP_wr
      have kC_w14 := blk_next kC_wr hb_w14
      clear kC_wr
      have gC_w14 := gC_wr.trans (hb_w14.mono gC_wr.size)
      clear gC_wr
      have gQ_w14 := gQ_wr.trans (hb_w14.mono gQ_wr.size)
      clear gQ_wr
      have gY_w14 := gY_wr.trans (hb_w14.mono gY_wr.size)
      clear gY_wr
      have gZ_w14 := gZ_wr.trans (hb_w14.mono gZ_wr.size)
      clear gZ_wr
      have gT_w14 := Below.refl w14.heap.size w14
      have hNt : Nt ≤ 9223372036854775807 := by have := own_capI hT.row; omega
      go_wp2
      go_loopw [17, 18] (fun q i wr => ∃ (k : Nat), k ≤ Nt ∧ i = .int .i64 (k : Int) ∧ q = .bool ((List.range k).any (gd Z)) ∧ Below w14.heap.size w14 wr) (fun _ i _ => Nt - (intOf i).toNat)
      case atStart => exact ⟨0, Nat.zero_le _, rfl, rfl, Below.refl _ _⟩
      case round =>
        obtain ⟨k, hk, rfl, rfl, hbr⟩ := hrel
        have gP_wr := gP_w14.trans (hbr.mono gP_w14.size)
        clear gP_w14
        have kC_wr := blk_next kC_w14 hbr
        clear kC_w14
        have gC_wr := gC_w14.trans (hbr.mono gC_w14.size)
        clear gC_w14
        have gQ_wr := gQ_w14.trans (hbr.mono gQ_w14.size)
        clear gQ_w14
        have gY_wr := gY_w14.trans (hbr.mono gY_w14.size)
        clear gY_w14
        have gZ_wr := gZ_w14.trans (hbr.mono gZ_w14.size)
        clear gZ_w14
        have gT_wr := gT_w14.trans (hbr.mono gT_w14.size)
        clear gT_w14
        have hTr := hT.below hbr
        by_cases hlt : k < Nt
        · skip
          have hkl : k < (twRes Z).length := by rw [hTr.ll]; exact hlt
          have hkb : k < bt.length := by rw [hTr.bl]; exact hlt
          obtain ⟨adt, ut, rfl, habt, hut, hct⟩ := (Reads.of_own hTr.row).at_ (k := k) hlt
          rw [List.getElem?_map, List.getElem?_eq_getElem hkb] at hut
          have hut2 : ut = .slice (some ⟨bt[k], 0, none⟩) 2 2 := by injection hut with hut; exact hut.symm
          subst hut2
          obtain ⟨hblk, _, _⟩ := hTr.blk k hkl hkb
          obtain ⟨hp12, hp2z⟩ := HEA.out _ (List.getElem_mem hkl)
          have hgk : gd Z k = (match Z[((twRes Z)[k]).1]?, Z[((twRes Z)[k]).2]? with
              | some x, some y => decide (x.nm = owl) && decide (y.nm = wren)
              | _, _ => false) := by unfold gd; rw [List.getElem?_eq_getElem hkl]
          obtain ⟨⟨p1, p2⟩, hpp⟩ : ∃ p, (twRes Z)[k] = p := ⟨_, rfl⟩
          rw [hpp] at hblk hp12 hp2z hgk
          obtain ⟨b1, hb1'⟩ : ∃ b, bt[k] = b := ⟨_, rfl⟩
          rw [hb1'] at hblk hct
          simp only at hblk hp12 hp2z hgk
          rw [HNZ.out] at hp2z
          have g0 := (blk_cells hblk 0).1
          have g1 := (blk_cells hblk 1).1
          have gl := blk_lt hblk
          obtain ⟨hk1, ad1, rfl, hab1, e0, e1, e2, e3, hSx, hnx⟩ := ((IZ.below gZ_wr).more gZ_wr.size).at_ (k := p1) (by omega)
          obtain ⟨hk2, ad2, hA2, hab2, f0, f1, f2, f3, hSy, hny⟩ := ((IZ.below gZ_wr).more gZ_wr.size).at_ (k := p2) hp2z
          injection hA2 with hA2
          subst hA2
          have hz1 := plI_at hk1
          have hz2 := plI_at hk2
          rw [HPZ.out] at hz1 hz2
          rw [hz1, hz2] at hgk
          simp only at hgk
          obtain ⟨nx, hnx9⟩ : ∃ x, L7[p1].x.nm = x := ⟨_, rfl⟩
          obtain ⟨ny, hny9⟩ : ∃ x, L7[p2].x.nm = x := ⟨_, rfl⟩
          rw [hnx9] at e0 hgk
          rw [hny9] at f0 hgk
          clear hz1 hz2 hnx9 hny9 e1 e2 e3 f1 f2 f3 hSx hnx hSy hny hut hb1' hpp hblk
          have hANY := any_succ (gd Z) k
          rw [hgk] at hANY
          obtain ⟨u1, hu1⟩ : ∃ b, decide (nx = owl) = b := ⟨_, rfl⟩
          obtain ⟨u2, hu2⟩ : ∃ b, decide (ny = wren) = b := ⟨_, rfl⟩
          have hbo := eq_owl nx
          have hbv := eq_wren ny
          rw [hu1] at hbo hANY
          rw [hu2] at hbv hANY
          clear hu1 hu2
          have HANY := Lib.hid hANY
          obtain ⟨bq, hbq⟩ : ∃ b, (List.range k).any (gd Z) = b := ⟨_, rfl⟩
          rw [hbq] at HANY ⊢
          have hq1 : (ad1.add (p1 * 4)).block < wr.heap.size := by rw [block_of_add]; omega
          have hq2 : (ad1.add (p2 * 4)).block < wr.heap.size := by rw [block_of_add]; omega
          have hq3 : (adt.add k).block < wr.heap.size := by rw [block_of_add]; omega
          have hki : (k : Int) < (Nt : Int) := by omega
          have m1 : ¬ (p1 : Int) < 0 := by omega
          have m2 : ¬ (p2 : Int) ≤ (p1 : Int) := by omega
          have m3 : ¬ (nz : Int) ≤ (p2 : Int) := by omega
          have m4 : ¬ p2 ≤ p1 := by omega
          have m5 : ¬ nz ≤ p2 := by omega
          have d1 : decide ((p1 : Int) < 0) = false := decide_eq_false m1
          have d2 : decide ((p2 : Int) ≤ (p1 : Int)) = false := decide_eq_false m2
          have d3 : decide ((nz : Int) ≤ (p2 : Int)) = false := decide_eq_false m3
          have d4 : decide (p2 ≤ p1) = false := decide_eq_false m4
          have d5 : decide (nz ≤ p2) = false := decide_eq_false m5
          have hpz1 : (p1 : Int) < (nz : Int) := by omega
          have hpz2 : (p2 : Int) < (nz : Int) := by omega
          clear hgk hANY hbq
          cases bq <;> cases u1 <;> cases u2 <;> skip
          all_goals (
            go_wp2
            go_quiet (fail)
            go_wp2
            go_roundw
            case rel => exact ⟨k + 1, by omega, by go_num, by rw [HANY.out]; rfl, below_drewN hbr _⟩
            case measure => simp [intOf]; omega)
        · have hkn : k = Nt := by omega
          subst hkn
          have hpair : (List.range k).any (gd Z) = true := List.any_eq_true.2 ⟨ip, List.mem_range.2 (by have := HIP.out; rw [hTr.ll] at this; exact this), HGD.out⟩
          rw [hpair]
          clear hpair
          obtain ⟨hC0, hC1, hC2, hCl⟩ := blk3 kC_wr
          go_wp2_with fail
          clear hC0 hC1 hC2 hCl
          refine (HA3.out wr A2 c2 L2 HPQ.out ((IQ.below gQ_wr).more gQ_wr.size) ((SC.below gC_wr).more gC_wr.size)).mono ?_
          rintro e w15 ⟨A8, c8, rfl, hb_w15⟩
          have gP_w15 := gP_wr.trans (hb_w15.mono gP_wr.size)
          clear gP_wr
          have kC_w15 := blk_next kC_wr hb_w15
          clear kC_wr
          have gC_w15 := gC_wr.trans (hb_w15.mono gC_wr.size)
          clear gC_wr
          have gQ_w15 := gQ_wr.trans (hb_w15.mono gQ_wr.size)
          clear gQ_wr
          have gY_w15 := gY_wr.trans (hb_w15.mono gY_wr.size)
          clear gY_wr
          have gZ_w15 := gZ_wr.trans (hb_w15.mono gZ_wr.size)
          clear gZ_wr
          have gT_w15 := gT_wr.trans (hb_w15.mono gT_wr.size)
          clear gT_wr
          go_wp2_with fail
          refine (HW1.out w15 A7 c7 L7 HPZ.out ((IZ.below gZ_w15).more gZ_w15.size)).mono ?_
          rintro e w16 ⟨A9, c9, rfl, hb_w16⟩
          have gP_w16 := gP_w15.trans (hb_w16.mono gP_w15.size)
          clear gP_w15
          have kC_w16 := blk_next kC_w15 hb_w16
          clear kC_w15
          have gC_w16 := gC_w15.trans (hb_w16.mono gC_w15.size)
          clear gC_w15
          have gQ_w16 := gQ_w15.trans (hb_w16.mono gQ_w15.size)
          clear gQ_w15
          have gY_w16 := gY_w15.trans (hb_w16.mono gY_w15.size)
          clear gY_w15
          have gZ_w16 := gZ_w15.trans (hb_w16.mono gZ_w15.size)
          clear gZ_w15
          have gT_w16 := gT_w15.trans (hb_w16.mono gT_w15.size)
          clear gT_w15
          go_wp2_with fail
          refine (HW2.out w16 A7 c7 L7 HPZ.out ((IZ.below gZ_w16).more gZ_w16.size)).mono ?_
          rintro e w17 ⟨Aw, cw, rfl, hb_w17⟩
          have gP_w17 := gP_w16.trans (hb_w17.mono gP_w16.size)
          clear gP_w16
          have kC_w17 := blk_next kC_w16 hb_w17
          clear kC_w16
          have gC_w17 := gC_w16.trans (hb_w17.mono gC_w16.size)
          clear gC_w16
          have gQ_w17 := gQ_w16.trans (hb_w17.mono gQ_w16.size)
          clear gQ_w16
          have gY_w17 := gY_w16.trans (hb_w17.mono gY_w16.size)
          clear gY_w16
          have gZ_w17 := gZ_w16.trans (hb_w17.mono gZ_w16.size)
          clear gZ_w16
          have gT_w17 := gT_w16.trans (hb_w17.mono gT_w16.size)
          clear gT_w16
          go_wp2_with (first | (go_at_call_of 36 (Value.string ⟨#[111, 119, 108]⟩); refine (HO1.out _).mono ?_; rintro e w' ⟨rfl, rfl⟩) | (go_at_call_of 36 (Value.string ⟨#[79, 119, 108]⟩); refine (HO2.out _).mono ?_; rintro e w' ⟨rfl, rfl⟩))
          go_ret
          exact ⟨rfl, hb1.trans (Below.mono gP_w17 hs1)⟩
end Go.Proofs.Ytccjedongkokoaa.fnCatalogs
