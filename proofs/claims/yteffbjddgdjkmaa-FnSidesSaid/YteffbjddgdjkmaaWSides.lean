/- FnSides: the walk. -/
import Derived.Test.YteffbjddgdjkmaaTurn3
import Derived.Test.YteffbjddgdjkmaaCards1
import Derived.Test.YteffbjddgdjkmaaLawDraw
import Derived.Test.YteffbjddgdjkmaaLexC
import Derived.Lib.QuietBelow
import Derived.BigQuiet
import Derived.Deep.DeepCutAuto
namespace Go.Proofs.Yteffbjddgdjkmaa.fnSides
open Go.ChangeShapes Go.WideShapes Go.ChangeAt Go.RowKit
set_option linter.unusedVariables false
set_option linter.unusedSimpArgs false
set_option maxRecDepth 10000

theorem pow_bd {M : Nat} (h : M ≤ 8) : ∃ V : Int, (2 : Int) ^ M = V ∧ 0 ≤ V ∧ V ≤ 256 := by
  have : M = 0 ∨ M = 1 ∨ M = 2 ∨ M = 3 ∨ M = 4 ∨ M = 5 ∨ M = 6 ∨ M = 7 ∨ M = 8 := by omega
  rcases this with rfl | rfl | rfl | rfl | rfl | rfl | rfl | rfl | rfl <;> exact ⟨_, rfl, by decide, by decide⟩
theorem w64 {x : Int} (h : -9223372036854775808 ≤ x ∧ x ≤ 9223372036854775807) : IntKind.i64.wrap x = x := by rw [IntKind.wrap_i64]; omega
theorem eqb (a b : ByteArray) (x : Bool) (h : decide (a = b) = x) : (a.toList == b.toList) = x := by
  rw [← h]
  by_cases q : a = b
  · rw [beq_toList_true q, decide_eq_true q]
  · rw [beq_toList_false q, decide_eq_false q]
set_option maxHeartbeats 12800000 in
theorem walkSides (A : Option Addr) (c : Nat) (bs : List Int) (w : World) (hK : Code w w.heap.size A bs) :
    Calls Try.prog 4 #[.slice A bs.length c] w fun e w' => e = .returned (.bool true) ∧ Below w.heap.size w w' := by
  have hnb := hK.nb
  have hd : decide (1048576 < bs.length) = false := by simp; omega
  go_enter Try.func4, Try.ntmps4
  go_wp2_with (go_at_call 10; refine (l_big _ _ _ _ (by omega)).mono ?_; rw [hd]; rintro e w' ⟨rfl, rfl⟩)
  refine (s_DrawCard w.heap.size A c bs w hK (Nat.le_refl _)).mono ?_
  rintro e w1 ⟨d, f, ss, A', c', hbd, hss, rfl, ho1, hb1⟩
  have hcd := drew_cardOk hbd hss
  have hsz : ∀ x ∈ ss, x.size ≤ 16777216 := fun x hx => by have := (hss x hx).2.2; omega
  have hS1 : Strs w1 w1.heap.size A' ss.length ss := ho1.rd (by omega) hsz
  have hs1 := hb1.size
  obtain ⟨X0, hX0⟩ : ∃ X, atV bs 0 = X := ⟨_, rfl⟩
  have hx0 := atV_bd hK.bd 0
  have kAt0 := fun (W : World) (h : Code W w.heap.size A bs) => l_at 0 w.heap.size A c bs W h (by omega)
  rw [hX0] at kAt0 hx0
  clear hX0
  obtain ⟨n, hn⟩ : ∃ n, ss.length = n := ⟨_, rfl⟩
  have HN := Lib.hid hn
  rw [hn] at hbd hS1 ⊢
  clear hn
  have hn16 := hbd.2.2.2.2
  have hct := cardOk_turn hcd
  have hcm := cardOk_rev hcd
  have hcs := symS_ok hcd
  have hcmt := cardOk_turn hcm
  have e1 := map_turn2 hcd
  have e2 : ss.reverse.reverse = ss := List.reverse_reverse _
  have e3 : (ss.map turnB).reverse = ss.reverse.map turnB := (List.map_reverse ..).symm
  have hvt := vol_turn hcd
  have hvs := vol_sym hcd
  have hsr := symS_rev hcd
  have hsi := symS_iff hcd
  have hstr := fun (k : Nat) (hk : k < ss.length) => strips_of hcd (List.getElem_mem hk)
  have habv := fun (j k : Nat) (hj : j < ss.length) (hk : k < ss.length) => above_turnB hcd (List.getElem_mem hj) (List.getElem_mem hk)
  have hfrm := fun (j k : Nat) (hj : j < ss.length) (hk : k < ss.length) => card_frame hcd (List.getElem_mem hj) (List.getElem_mem hk)
  have hroom := fun (k : Nat) (hk : k < ss.length) => room_turn (strips_of hcd (List.getElem_mem hk)).1
  obtain ⟨ts, hts⟩ : ∃ x, ss.map turnB = x := ⟨_, rfl⟩
  obtain ⟨ms, hms⟩ : ∃ x, ss.reverse = x := ⟨_, rfl⟩
  obtain ⟨ys, hys⟩ : ∃ x, symS ss = x := ⟨_, rfl⟩
  obtain ⟨rs, hrs⟩ : ∃ x, ms.map turnB = x := ⟨_, rfl⟩
  obtain ⟨bq, hbq⟩ : ∃ x, decide (ms = ss) = x := ⟨_, rfl⟩
  have hbq2 : decide (ss = ys) = bq := by
    rw [← hbq]
    rw [hms, hys] at hsi
    by_cases q : ms = ss
    · rw [decide_eq_true q, decide_eq_true (hsi.1 q)]
    · rw [decide_eq_false q, decide_eq_false (fun h => q (hsi.2 h))]
  rw [hts] at hct e1 e3 hvt
  rw [hms] at hcm e2 e3 hcmt
  rw [hrs] at e3 hcmt
  rw [hys] at hcs hvs hsr
  have kTC := fun (W : World) (B : Nat) (h : Strs W B A' n ss) (hB : B ≤ W.heap.size) => i_TurnN d f B A' n c' ss W h hB hcd
  rw [hts] at kTC
  have kTT := fun (W : World) (B : Nat) (A2 : Option Addr) (c2 : Nat) (h : Strs W B A2 n ts) (hB : B ≤ W.heap.size) => i_TurnN f d B A2 n c2 ts W h hB hct
  rw [e1] at kTT
  have kTM := fun (W : World) (B : Nat) (A2 : Option Addr) (c2 : Nat) (h : Strs W B A2 n ms) (hB : B ≤ W.heap.size) => i_TurnN d f B A2 n c2 ms W h hB hcm
  rw [hrs] at kTM
  have kMC := fun (W : World) (B : Nat) (h : Strs W B A' n ss) (hB : B ≤ W.heap.size) => i_MirrorN d f B A' n c' ss W h hB hcd
  rw [hms] at kMC
  have kMM := fun (W : World) (B : Nat) (A2 : Option Addr) (c2 : Nat) (h : Strs W B A2 n ms) (hB : B ≤ W.heap.size) => i_MirrorN d f B A2 n c2 ms W h hB hcm
  rw [e2] at kMM
  have kMT := fun (W : World) (B : Nat) (A2 : Option Addr) (c2 : Nat) (h : Strs W B A2 n ts) (hB : B ≤ W.heap.size) => i_MirrorN f d B A2 n c2 ts W h hB hct
  rw [e3] at kMT
  have kYC := fun (W : World) (B : Nat) (h : Strs W B A' n ss) (hB : B ≤ W.heap.size) => i_SymN d f B A' n c' ss W h hB hcd
  rw [hys] at kYC
  have kSS : ∀ (W : World) (A2 : Option Addr) (c2 : Nat), Strs W W.heap.size A2 n ss → Strs W W.heap.size A' n ss → Calls Try.prog 32 #[.agg #[.int .i64 d, .int .i64 f, .slice A2 n c2], .agg #[.int .i64 d, .int .i64 f, .slice A' n c']] W fun e w' => e = .returned (.bool true) ∧ Below W.heap.size W w' := by
    intro W A2 c2 h1 h2
    have q := i_SameCard d f d f W.heap.size A2 A' n c2 n c' ss ss W h1 h2 (Nat.le_refl _)
    rw [sameCard_iff.2 ⟨rfl, rfl, rfl⟩] at q
    exact q
  have kSR : ∀ (W : World) (A2 A3 : Option Addr) (c2 c3 : Nat), Strs W W.heap.size A2 n rs → Strs W W.heap.size A3 n rs → Calls Try.prog 32 #[.agg #[.int .i64 f, .int .i64 d, .slice A2 n c2], .agg #[.int .i64 f, .int .i64 d, .slice A3 n c3]] W fun e w' => e = .returned (.bool true) ∧ Below W.heap.size W w' := by
    intro W A2 A3 c2 c3 h1 h2
    have q := i_SameCard f d f d W.heap.size A2 A3 n c2 n c3 rs rs W h1 h2 (Nat.le_refl _)
    rw [sameCard_iff.2 ⟨rfl, rfl, rfl⟩] at q
    exact q
  have kSY : ∀ (W : World) (A2 : Option Addr) (c2 : Nat), Strs W W.heap.size A' n ss → Strs W W.heap.size A2 n ys → Calls Try.prog 35 #[.agg #[.int .i64 d, .int .i64 f, .slice A' n c'], .agg #[.int .i64 d, .int .i64 f, .slice A2 n c2]] W fun e w' => e = .returned (.bool bq) ∧ Below W.heap.size W w' := by
    intro W A2 c2 h1 h2
    have q := s_SameCard d f d f W.heap.size A' A2 n c' n c2 ss ys W h1 h2 (Nat.le_refl _)
    have : sameCard (d : Int) f d f ss ys = bq := by rw [← hbq2]; unfold sameCard eqSS; simp
    rw [this] at q
    exact q
  have kIY : ∀ (W : World) (A2 : Option Addr) (c2 : Nat), Strs W W.heap.size A2 n ys → Calls Try.prog 33 #[.agg #[.int .i64 d, .int .i64 f, .slice A2 n c2]] W fun e w' => e = .returned (.bool true) ∧ Below W.heap.size W w' := by
    intro W A2 c2 h1
    have q := i_IsSymmetric d f W.heap.size A2 n c2 ys W h1 (Nat.le_refl _) hcs
    rw [hsr, decide_eq_true rfl] at q
    exact q
  have kIC : ∀ (W : World), Strs W W.heap.size A' n ss → Calls Try.prog 33 #[.agg #[.int .i64 d, .int .i64 f, .slice A' n c']] W fun e w' => e = .returned (.bool bq) ∧ Below W.heap.size W w' := by
    intro W h1
    have q := i_IsSymmetric d f W.heap.size A' n c' ss W h1 (Nat.le_refl _) hcd
    rw [hms, hbq] at q
    exact q
  obtain ⟨VC, hVC⟩ : ∃ x, volOf (d : Int) f ss = x := ⟨_, rfl⟩
  obtain ⟨VY, hVY⟩ : ∃ x, volOf (d : Int) f ys = x := ⟨_, rfl⟩
  rw [hVC, hVY] at hvs
  rw [hVC] at hvt
  have kVC := fun (W : World) (h : Strs W W.heap.size A' n ss) => s_VolumeOf d f W.heap.size A' n c' ss W h (Nat.le_refl _)
  have kVY := fun (W : World) (A2 : Option Addr) (c2 : Nat) (h : Strs W W.heap.size A2 n ys) => s_VolumeOf d f W.heap.size A2 n c2 ys W h (Nat.le_refl _)
  have kVT := fun (W : World) (A2 : Option Addr) (c2 : Nat) (h : Strs W W.heap.size A2 n ts) => s_VolumeOf f d W.heap.size A2 n c2 ts W h (Nat.le_refl _)
  rw [hVC] at kVC
  rw [hVY] at kVY
  rw [hvt] at kVT
  obtain ⟨M, hM⟩ : ∃ M : Nat, 1 + X0 % 8 = (M : Int) := ⟨(1 + X0 % 8).toNat, by omega⟩
  have hM1 : 1 ≤ M := by omega
  have hM8 : M ≤ 8 := by omega
  obtain ⟨V, hV, hV0, hV256⟩ := pow_bd hM8
  have hwV : IntKind.i64.wrap ((2 : Int) ^ M) = V := by rw [hV]; exact w64 (by omega)
  have hwV2 : wrap64 ((2 : Int) ^ M) = V := by rw [hV]; unfold wrap64; omega
  have kCB := fun (W : World) => i_CountBalanced M W hM1 hM8
  rw [hwV2] at kCB
  have HTC := hide kTC
  have HTT := hide kTT
  have HTM := hide kTM
  have HMC := hide kMC
  have HMM := hide kMM
  have HMT := hide kMT
  have HYC := hide kYC
  have HSS := hide kSS
  have HSR := hide kSR
  have HSY := hide kSY
  have HIY := hide kIY
  have HIC := hide kIC
  have HVC := hide kVC
  have HVY := hide kVY
  have HVT := hide kVT
  have HCB := hide kCB
  have HA0 := hide kAt0
  have HSTR := hide hstr
  have HABV := hide habv
  have HFRM := hide hfrm
  have HROOM := hide hroom
  have HSZ := hide hsz
  clear kTC kTT kTM kMC kMM kMT kYC kSS kSR kSY kIY kIC kVC kVY kVT kCB kAt0 hstr habv hfrm hroom hsz hcd hct hcm hcs hcmt e1 e2 e3 hvt hsr hsi hbq hbq2 hts hms hys hrs hVC hVY hss ho1 hV hwV2
  have SC := hS1
  go_wp2_with fail
  have kC_w2 := blk_new w1 (.cells #[.int .i64 d, .int .i64 f, .slice A' n c'] 26)
  have hb_w2 : Below w1.heap.size w1 (w1.alloc (.cells #[.int .i64 d, .int .i64 f, .slice A' n c'] 26)) := bel
  have gC_w2 := hb_w2
  generalize (w1.alloc (.cells #[.int .i64 d, .int .i64 f, .slice A' n c'] 26)) = w2 at *
  refine (HTC.out w2 w1.heap.size (SC.below gC_w2) gC_w2.size).mono ?_
  rintro e w3 ⟨T2, t3, rfl, ST, hb_w3⟩
  have kC_w3 := blk_next kC_w2 hb_w3
  have gC_w3 := gC_w2.trans (hb_w3.mono gC_w2.size)
  clear kC_w2 gC_w2
  obtain ⟨hC0, hC1, hC2, hCl⟩ := blk3 kC_w3
  go_wp2_with fail
  clear hC0 hC1 hC2 hCl
  have kT_w4 := blk_new w3 (.cells #[.int .i64 f, .int .i64 d, .slice T2 n t3] 26)
  have hb_w4 : Below w3.heap.size w3 (w3.alloc (.cells #[.int .i64 f, .int .i64 d, .slice T2 n t3] 26)) := bel
  have kC_w4 := blk_next kC_w3 hb_w4
  have gC_w4 := gC_w3.trans (hb_w4.mono gC_w3.size)
  clear kC_w3 gC_w3
  have gT_w4 := hb_w4
  generalize (w3.alloc (.cells #[.int .i64 f, .int .i64 d, .slice T2 n t3] 26)) = w4 at *
  refine (HMC.out w4 w1.heap.size (SC.below gC_w4) gC_w4.size).mono ?_
  rintro e w5 ⟨M2, m3, rfl, SM, hb_w5⟩
  have kC_w5 := blk_next kC_w4 hb_w5
  have gC_w5 := gC_w4.trans (hb_w5.mono gC_w4.size)
  clear kC_w4 gC_w4
  have kT_w5 := blk_next kT_w4 hb_w5
  have gT_w5 := gT_w4.trans (hb_w5.mono gT_w4.size)
  clear kT_w4 gT_w4
  obtain ⟨hC0, hC1, hC2, hCl⟩ := blk3 kC_w5
  go_wp2_with fail
  clear hC0 hC1 hC2 hCl
  have kM_w6 := blk_new w5 (.cells #[.int .i64 d, .int .i64 f, .slice M2 n m3] 26)
  have hb_w6 : Below w5.heap.size w5 (w5.alloc (.cells #[.int .i64 d, .int .i64 f, .slice M2 n m3] 26)) := bel
  have kC_w6 := blk_next kC_w5 hb_w6
  have gC_w6 := gC_w5.trans (hb_w6.mono gC_w5.size)
  clear kC_w5 gC_w5
  have kT_w6 := blk_next kT_w5 hb_w6
  have gT_w6 := gT_w5.trans (hb_w6.mono gT_w5.size)
  clear kT_w5 gT_w5
  have gM_w6 := hb_w6
  generalize (w5.alloc (.cells #[.int .i64 d, .int .i64 f, .slice M2 n m3] 26)) = w6 at *
  refine (HYC.out w6 w1.heap.size (SC.below gC_w6) gC_w6.size).mono ?_
  rintro e w7 ⟨Y2, y3, rfl, SY, hb_w7⟩
  have kC_w7 := blk_next kC_w6 hb_w7
  have gC_w7 := gC_w6.trans (hb_w7.mono gC_w6.size)
  clear kC_w6 gC_w6
  have kT_w7 := blk_next kT_w6 hb_w7
  have gT_w7 := gT_w6.trans (hb_w7.mono gT_w6.size)
  clear kT_w6 gT_w6
  have kM_w7 := blk_next kM_w6 hb_w7
  have gM_w7 := gM_w6.trans (hb_w7.mono gM_w6.size)
  clear kM_w6 gM_w6
  obtain ⟨hC0, hC1, hC2, hCl⟩ := blk3 kC_w7
  go_wp2_with fail
  clear hC0 hC1 hC2 hCl
  have kY_w8 := blk_new w7 (.cells #[.int .i64 d, .int .i64 f, .slice Y2 n y3] 26)
  have hb_w8 : Below w7.heap.size w7 (w7.alloc (.cells #[.int .i64 d, .int .i64 f, .slice Y2 n y3] 26)) := bel
  have kC_w8 := blk_next kC_w7 hb_w8
  have gC_w8 := gC_w7.trans (hb_w8.mono gC_w7.size)
  clear kC_w7 gC_w7
  have kT_w8 := blk_next kT_w7 hb_w8
  have gT_w8 := gT_w7.trans (hb_w8.mono gT_w7.size)
  clear kT_w7 gT_w7
  have kM_w8 := blk_next kM_w7 hb_w8
  have gM_w8 := gM_w7.trans (hb_w8.mono gM_w7.size)
  clear kM_w7 gM_w7
  have gY_w8 := hb_w8
  generalize (w7.alloc (.cells #[.int .i64 d, .int .i64 f, .slice Y2 n y3] 26)) = w8 at *
  go_wp2
  go_loopw [7] (fun i wr => ∃ (j : Nat), j ≤ n ∧ i = .int .i64 j ∧ Below w8.heap.size w8 wr) (fun i _ => n - (intOf i).toNat)
  case atStart => exact ⟨0, Nat.zero_le _, rfl, Below.refl _ _⟩
  case round =>
    obtain ⟨j, hj, rfl, hbr⟩ := hrel
    have kC_wr := blk_next kC_w8 hbr
    have gC_wr := gC_w8.trans (hbr.mono gC_w8.size)
    clear kC_w8 gC_w8
    have kT_wr := blk_next kT_w8 hbr
    have gT_wr := gT_w8.trans (hbr.mono gT_w8.size)
    clear kT_w8 gT_w8
    have kM_wr := blk_next kM_w8 hbr
    have gM_wr := gM_w8.trans (hbr.mono gM_w8.size)
    clear kM_w8 gM_w8
    have kY_wr := blk_next kY_w8 hbr
    have gY_wr := gY_w8.trans (hbr.mono gY_w8.size)
    clear kY_w8 gY_w8
    by_cases hlt : j < n
    · skip
      obtain ⟨hj3, ad, rfl, hab, hcs, hsb⟩ := (SC.below gC_wr).at_ (k := j) hlt
      have hst := (HSTR.out j hj3).1
      have hrm := HROOM.out j hj3
      have hbt := turnB_turn hst
      have hsb2 : (turnB ss[j]).size ≤ 16777216 := Nat.le_trans (turnB_size _) hsb
      have hst2 := turnB_strip hst
      obtain ⟨b, hb⟩ : ∃ b, decide (turnB ss[j] = ss[j]) = b := ⟨_, rfl⟩
      have hqb := eqb _ _ _ hb
      have kT1 := fun (W : World) => i_TurnStrip ss[j] W hsb
      have kT2 := fun (W : World) => i_TurnStrip (turnB ss[j]) W hsb2
      rw [hbt] at kT2
      have kR1 := fun (W : World) => s_RoomUnder ss[j] W hsb
      have kR2 := fun (W : World) => s_RoomUnder (turnB ss[j]) W hsb2
      rw [hrm] at kR2
      have kIB := fun (W : World) => i_IsBalanced ss[j] W hsb hst
      rw [hb] at kIB
      obtain ⟨S, hS⟩ : ∃ x, ss[j] = x := ⟨_, rfl⟩
      have HSJ := Lib.hid hS
      obtain ⟨R, hR⟩ : ∃ x, roomOf ss[j].data.toList = x := ⟨_, rfl⟩
      rw [hR] at kR1 kR2
      rw [hS] at kT1 kT2 kR1 kR2 kIB hcs hsb hqb hsb2
      have hrt : turnB ss[j] = turnB S := by rw [hS]
      obtain ⟨T, hT⟩ : ∃ x, turnB S = x := ⟨_, rfl⟩
      have HTJ : Hid (turnB ss[j] = T) := by unfold Hid; rw [hrt, hT]
      rw [hT] at kT1 kT2 kR2 hqb hsb2
      have HT1 := hide kT1
      have HT2 := hide kT2
      have HR1 := hide kR1
      have HR2 := hide kR2
      have HIB := hide kIB
      clear kT1 kT2 kR1 kR2 kIB hrm hbt hst hst2 hb hR hrt hT hS
      obtain ⟨hC0, hC1, hC2, hCl⟩ := blk3 kC_wr
      go_wp2_with fail
      clear hC0 hC1 hC2 hCl
      refine (HT1.out wr).mono ?_
      rintro e w9 ⟨rfl, hb_w9⟩
      have kC_w9 := blk_next kC_wr hb_w9
      have gC_w9 := gC_wr.trans (hb_w9.mono gC_wr.size)
      clear kC_wr gC_wr
      have kT_w9 := blk_next kT_wr hb_w9
      have gT_w9 := gT_wr.trans (hb_w9.mono gT_wr.size)
      clear kT_wr gT_wr
      have kM_w9 := blk_next kM_wr hb_w9
      have gM_w9 := gM_wr.trans (hb_w9.mono gM_wr.size)
      clear kM_wr gM_wr
      have kY_w9 := blk_next kY_wr hb_w9
      have gY_w9 := gY_wr.trans (hb_w9.mono gY_wr.size)
      clear kY_wr gY_wr
      have tok1 : True := trivial
      go_wp2_with fail
      refine (HT2.out w9).mono ?_
      rintro e w10 ⟨rfl, hb_w10⟩
      have kC_w10 := blk_next kC_w9 hb_w10
      have gC_w10 := gC_w9.trans (hb_w10.mono gC_w9.size)
      clear kC_w9 gC_w9
      have kT_w10 := blk_next kT_w9 hb_w10
      have gT_w10 := gT_w9.trans (hb_w10.mono gT_w9.size)
      clear kT_w9 gT_w9
      have kM_w10 := blk_next kM_w9 hb_w10
      have gM_w10 := gM_w9.trans (hb_w10.mono gM_w9.size)
      clear kM_w9 gM_w9
      have kY_w10 := blk_next kY_w9 hb_w10
      have gY_w10 := gY_w9.trans (hb_w10.mono gY_w9.size)
      clear kY_w9 gY_w9
      go_wp2_with fail
      refine (HR2.out w10).mono ?_
      rintro e w11 ⟨rfl, hb_w11⟩
      have kC_w11 := blk_next kC_w10 hb_w11
      have gC_w11 := gC_w10.trans (hb_w11.mono gC_w10.size)
      clear kC_w10 gC_w10
      have kT_w11 := blk_next kT_w10 hb_w11
      have gT_w11 := gT_w10.trans (hb_w11.mono gT_w10.size)
      clear kT_w10 gT_w10
      have kM_w11 := blk_next kM_w10 hb_w11
      have gM_w11 := gM_w10.trans (hb_w11.mono gM_w10.size)
      clear kM_w10 gM_w10
      have kY_w11 := blk_next kY_w10 hb_w11
      have gY_w11 := gY_w10.trans (hb_w11.mono gY_w10.size)
      clear kY_w10 gY_w10
      go_wp2_with fail
      refine (HR1.out w11).mono ?_
      rintro e w12 ⟨rfl, hb_w12⟩
      have kC_w12 := blk_next kC_w11 hb_w12
      have gC_w12 := gC_w11.trans (hb_w12.mono gC_w11.size)
      clear kC_w11 gC_w11
      have kT_w12 := blk_next kT_w11 hb_w12
      have gT_w12 := gT_w11.trans (hb_w12.mono gT_w11.size)
      clear kT_w11 gT_w11
      have kM_w12 := blk_next kM_w11 hb_w12
      have gM_w12 := gM_w11.trans (hb_w12.mono gM_w11.size)
      clear kM_w11 gM_w11
      have kY_w12 := blk_next kY_w11 hb_w12
      have gY_w12 := gY_w11.trans (hb_w12.mono gY_w11.size)
      clear kY_w11 gY_w11
      go_wp2_with fail
      refine (HIB.out w12).mono ?_
      rintro e w13 ⟨rfl, hb_w13⟩
      have kC_w13 := blk_next kC_w12 hb_w13
      have gC_w13 := gC_w12.trans (hb_w13.mono gC_w12.size)
      clear kC_w12 gC_w12
      have kT_w13 := blk_next kT_w12 hb_w13
      have gT_w13 := gT_w12.trans (hb_w13.mono gT_w12.size)
      clear kT_w12 gT_w12
      have kM_w13 := blk_next kM_w12 hb_w13
      have gM_w13 := gM_w12.trans (hb_w13.mono gM_w12.size)
      clear kM_w12 gM_w12
      have kY_w13 := blk_next kY_w12 hb_w13
      have gY_w13 := gY_w12.trans (hb_w13.mono gY_w12.size)
      clear kY_w12 gY_w12
      obtain ⟨hC0, hC1, hC2, hCl⟩ := blk3 kC_w13
      have hcsW : w13.cell? (ad.add j) = some (.string S) := by
        have h := ((SC.below gC_w13).at_ (k := j) hlt)
        obtain ⟨_, ad2, he, _, h2, _⟩ := h
        injection he with he
        subst he
        rw [HSJ.out] at h2
        exact h2
      by_cases hj0 : j = 0
      · skip
        subst hj0
        have hg0 : decide ((0 : Int) < 0) = false := by decide
        have rC0 := cell_regrown hC0
        have rC1 := cell_regrown hC1
        have rC2 := cell_regrown hC2
        have hgl : Below w8.heap.size w8 w13 := hbr.trans (Below.mono ((((hb_w9.trans (hb_w10.mono hb_w9.size)).trans (hb_w11.mono (hb_w9.trans (hb_w10.mono hb_w9.size)).size)).trans (hb_w12.mono ((hb_w9.trans (hb_w10.mono hb_w9.size)).trans (hb_w11.mono (hb_w9.trans (hb_w10.mono hb_w9.size)).size)).size)).trans (hb_w13.mono (((hb_w9.trans (hb_w10.mono hb_w9.size)).trans (hb_w11.mono (hb_w9.trans (hb_w10.mono hb_w9.size)).size)).trans (hb_w12.mono ((hb_w9.trans (hb_w10.mono hb_w9.size)).trans (hb_w11.mono (hb_w9.trans (hb_w10.mono hb_w9.size)).size)).size)).size)) hbr.size)
        go_wp2_with fail
        refine wp_region_quiet_below (by kernel_rfl) (lexB_of (by kernel_rfl)) ?_
        try dsimp only [List.append]
        repeat (go_big_quiet_step (fail))
        refine wpQuiet_nil ?_
        intro _ hw'
        obtain ⟨⟨dq, osq⟩, hw''⟩ := hw'
        subst hw''
        have hbg := below_regrown w13 dq osq
        generalize Go.Sort.grow (redrawn w13 dq) osq = wz at *
        go_wp2
        go_roundw
        case rel => exact ⟨0 + 1, by omega, by go_num, hgl.trans (hbg.mono hgl.size)⟩
        case measure => simp [intOf]; omega
      · skip
        obtain ⟨i, rfl⟩ : ∃ i, j = i + 1 := ⟨j - 1, by omega⟩
        have hlt2 : i < n := by omega
        obtain ⟨hi3, ad2, he, hab2, hcs2, hsb3⟩ := (SC.below gC_w13).at_ (k := i) hlt2
        injection he with he
        subst he
        have hav := HABV.out (i + 1) i hj3 hi3
        have hfr := HFRM.out (i + 1) i hj3 hi3
        have hfr2 := frame_turn hfr
        have hsi := HSTR.out i hi3
        have hsj := HSTR.out (i + 1) hj3
        rw [← turnB_list hsi.1, ← turnB_list hsj.1] at hfr2
        have hsb4 : (turnB ss[i]).size ≤ 16777216 := Nat.le_trans (turnB_size _) hsb3
        rw [HTJ.out] at hav hfr2
        rw [HSJ.out] at hav hfr
        obtain ⟨P, hP⟩ : ∃ x, ss[i] = x := ⟨_, rfl⟩
        rw [hP] at hav hfr hfr2 hcs2 hsb3 hsb4
        obtain ⟨Q, hQ⟩ : ∃ x, turnB P = x := ⟨_, rfl⟩
        have kTP := fun (W : World) => i_TurnStrip P W hsb3
        rw [hQ] at kTP hav hfr2 hsb4
        obtain ⟨bb, hbb⟩ : ∃ x, aboveL S.data.toList P.data.toList = x := ⟨_, rfl⟩
        have kA1 := fun (W : World) => s_IsAbove S P W hsb hsb3 hfr
        have kA2 := fun (W : World) => s_IsAbove T Q W hsb2 hsb4 hfr2
        rw [hav] at kA2
        rw [hbb] at kA1 kA2
        have zA1 : ∀ d_ os, Calls Try.prog 31 #[.string S, .string P] (Go.Sort.grow (redrawn w13 d_) os) fun e w'' => e = .returned (.bool bb) ∧ ∃ p : Regrown, w'' = Go.Sort.grow (redrawn w13 p.d) p.os := fun d_ os => Calls.regrown_of ((kA1 _).mono fun e w' h => ⟨h.1, by rw [h.2]; exact Below.refl _ _⟩)
        have zA2 : ∀ d_ os, Calls Try.prog 31 #[.string T, .string Q] (Go.Sort.grow (redrawn w13 d_) os) fun e w'' => e = .returned (.bool bb) ∧ ∃ p : Regrown, w'' = Go.Sort.grow (redrawn w13 p.d) p.os := fun d_ os => Calls.regrown_of ((kA2 _).mono fun e w' h => ⟨h.1, by rw [h.2]; exact Below.refl _ _⟩)
        have zTP := fun d_ os => Calls.regrown_of (kTP (Go.Sort.grow (redrawn w13 d_) os))
        have hg0 : decide ((0 : Int) < (i : Int) + 1) = true := decide_eq_true (by omega)
        have hg1 : ((i + 1 : Nat) : Int) - 1 = (i : Int) := by omega
        have hg2 : IntKind.i64.wrap ((i : Int) + 1 - 1) = (i : Int) := by rw [w64 (by omega)]; omega
        have rcs := cell_regrown hcs2
        clear kTP kA1 kA2 hP hQ hbb hav hfr hfr2 hsi hsj
        have rC0 := cell_regrown hC0
        have rC1 := cell_regrown hC1
        have rC2 := cell_regrown hC2
        have hgl : Below w8.heap.size w8 w13 := hbr.trans (Below.mono ((((hb_w9.trans (hb_w10.mono hb_w9.size)).trans (hb_w11.mono (hb_w9.trans (hb_w10.mono hb_w9.size)).size)).trans (hb_w12.mono ((hb_w9.trans (hb_w10.mono hb_w9.size)).trans (hb_w11.mono (hb_w9.trans (hb_w10.mono hb_w9.size)).size)).size)).trans (hb_w13.mono (((hb_w9.trans (hb_w10.mono hb_w9.size)).trans (hb_w11.mono (hb_w9.trans (hb_w10.mono hb_w9.size)).size)).trans (hb_w12.mono ((hb_w9.trans (hb_w10.mono hb_w9.size)).trans (hb_w11.mono (hb_w9.trans (hb_w10.mono hb_w9.size)).size)).size)).size)) hbr.size)
        cases bb <;> skip
        all_goals
          go_wp2_with fail
          refine wp_region_quiet_below (by kernel_rfl) (lexB_of (by kernel_rfl)) ?_
          try dsimp only [List.append]
          repeat (go_big_quiet_step (first | (go_at_call_of 31 (Value.string S); exact zA1 _ _) | (go_at_call_of 31 (Value.string T); exact zA2 _ _) | (go_at_call 28; exact zTP _ _)))
          refine wpQuiet_nil ?_
          intro _ hw'
          obtain ⟨⟨dq, osq⟩, hw''⟩ := hw'
          subst hw''
          have hbg := below_regrown w13 dq osq
          generalize Go.Sort.grow (redrawn w13 dq) osq = wz at *
          go_wp2
          go_roundw
          case rel => exact ⟨i + 1 + 1, by omega, by go_num, hgl.trans (hbg.mono hgl.size)⟩
          case measure => simp [intOf]; omega
    · have hjn : j = n := by omega
      subst hjn
      obtain ⟨hC0, hC1, hC2, hCl⟩ := blk3 kC_wr
      go_wp2_with fail
      clear hC0 hC1 hC2 hCl
      refine (HA0.out wr (hK.below (hb1.trans (gC_wr.mono hs1)))).mono ?_
      rintro e w' ⟨rfl, rfl⟩
      have hM' : (1 : Int) + X0 % 8 = (M : Int) := hM
      go_wp2_with fail
      try rw [hM']
      obtain ⟨hC0, hC1, hC2, hCl⟩ := blk3 kC_wr
      obtain ⟨hT0, hT1, hT2, hTl⟩ := blk3 kT_wr
      obtain ⟨hM0, hM1, hM2, hMl⟩ := blk3 kM_wr
      obtain ⟨hY0, hY1, hY2, hYl⟩ := blk3 kY_wr
      have YC := (SC.below gC_wr).more gC_wr.size
      have YT := (ST.below gT_wr).more gT_wr.size
      have YM := (SM.below gM_wr).more gM_wr.size
      have YY := (SY.below gY_wr).more gY_wr.size
      have tok1 : True := trivial
      have hvs2 : decide (VC ≤ VY) = true := decide_eq_true hvs
      cases bq <;> skip
      all_goals
        go_region_held3 (fun W => (∀ p : Addr, p.block < wr.heap.size → W.cell? p = (wr).cell? p) ∧ (∀ p : Addr, p.block < wr.heap.size → W.frozen? p = (wr).frozen? p) ∧ Below (wr.heap.size) (wr) W) (exact keep_ofP bel) (first | (go_at_call 25; have _t := tok1; clear _t tok1; have hq := (‹_ ∧ _ ∧ Below _ _ _›).2.2; have hqz := hq.size; refine (HTT.out _ _ _ _ ((YT.below hq).more hqz) (Nat.le_refl _)).mono ?_; rintro e v1 ⟨B1, b1, rfl, Z1, hb1_⟩; have tok2 : True := trivial; have hqs1 := hq.size; have hs1 := hb1_.size; (try simp at hqs1); (try simp at hs1)) | (go_at_call 32; have _t := tok2; clear _t tok2; have hq := (‹_ ∧ _ ∧ Below _ _ _›).2.2; have hqz := hq.size; refine (HSS.out _ _ _ Z1 ((YC.below hq).more hqz)).mono ?_; rintro e v2 ⟨rfl, hb2⟩; have tok3 : True := trivial; have hqs2 := hq.size; have hs2 := hb2.size; (try simp at hqs2); (try simp at hs2)) | (go_at_call 26; have _t := tok3; clear _t tok3; have hq := (‹_ ∧ _ ∧ Below _ _ _›).2.2; have hqz := hq.size; refine (HMM.out _ _ _ _ ((YM.below hq).more hqz) (Nat.le_refl _)).mono ?_; rintro e v3 ⟨B3, b3, rfl, Z3, hb3⟩; have tok4 : True := trivial; have hqs3 := hq.size; have hs3 := hb3.size; (try simp at hqs3); (try simp at hs3)) | (go_at_call 32; have _t := tok4; clear _t tok4; have hq := (‹_ ∧ _ ∧ Below _ _ _›).2.2; have hqz := hq.size; refine (HSS.out _ _ _ Z3 ((YC.below hq).more hqz)).mono ?_; rintro e v4 ⟨rfl, hb4⟩; have tok5 : True := trivial; have hqs4 := hq.size; have hs4 := hb4.size; (try simp at hqs4); (try simp at hs4)) | (go_at_call 26; have _t := tok5; clear _t tok5; have hq := (‹_ ∧ _ ∧ Below _ _ _›).2.2; have hqz := hq.size; refine (HMT.out _ _ _ _ ((YT.below hq).more hqz) (Nat.le_refl _)).mono ?_; rintro e v5 ⟨B5, b5, rfl, Z5, hb5⟩; have tok6 : True := trivial; have hqs5 := hq.size; have hs5 := hb5.size; (try simp at hqs5); (try simp at hs5)) | (go_at_call 25; have _t := tok6; clear _t tok6; have hq := (‹_ ∧ _ ∧ Below _ _ _›).2.2; have hqz := hq.size; refine (HTM.out _ _ _ _ ((YM.below hq).more hqz) (Nat.le_refl _)).mono ?_; rintro e v6 ⟨B6, b6, rfl, Z6, hb6⟩; have tok7 : True := trivial; have hqs6 := hq.size; have hs6 := hb6.size; (try simp at hqs6); (try simp at hs6); have Z5' := (Z5.below hb6).more hs6) | (go_at_call 32; have _t := tok7; clear _t tok7; have hq := (‹_ ∧ _ ∧ Below _ _ _›).2.2; have hqz := hq.size; refine (HSR.out _ _ _ _ _ Z5' Z6).mono ?_; rintro e v7 ⟨rfl, hb7⟩; have tok8 : True := trivial; have hqs7 := hq.size; have hs7 := hb7.size; (try simp at hqs7); (try simp at hs7)) | (go_at_call 33; have _t := tok8; clear _t tok8; have hq := (‹_ ∧ _ ∧ Below _ _ _›).2.2; have hqz := hq.size; refine (HIY.out _ _ _ ((YY.below hq).more hqz)).mono ?_; rintro e v8 ⟨rfl, hb8⟩; have tok9 : True := trivial; have hqs8 := hq.size; have hs8 := hb8.size; (try simp at hqs8); (try simp at hs8)) | (go_at_call 34; have _t := tok9; clear _t tok9; have hq := (‹_ ∧ _ ∧ Below _ _ _›).2.2; have hqz := hq.size; refine (HVY.out _ _ _ ((YY.below hq).more hqz)).mono ?_; rintro e v9 ⟨rfl, hb9⟩; have tok10 : True := trivial; have hqs9 := hq.size; have hs9 := hb9.size; (try simp at hqs9); (try simp at hs9)) | (go_at_call 34; have _t := tok10; clear _t tok10; have hq := (‹_ ∧ _ ∧ Below _ _ _›).2.2; have hqz := hq.size; refine (HVC.out _ ((YC.below hq).more hqz)).mono ?_; rintro e v10 ⟨rfl, hb10⟩; have tok11 : True := trivial; have hqs10 := hq.size; have hs10 := hb10.size; (try simp at hqs10); (try simp at hs10)) | (go_at_call 33; have _t := tok11; clear _t tok11; have hq := (‹_ ∧ _ ∧ Below _ _ _›).2.2; have hqz := hq.size; refine (HIC.out _ ((YC.below hq).more hqz)).mono ?_; rintro e v11 ⟨rfl, hb11⟩; have tok12 : True := trivial; have hqs11 := hq.size; have hs11 := hb11.size; (try simp at hqs11); (try simp at hs11)) | (go_at_call 35; have _t := tok12; clear _t tok12; have hq := (‹_ ∧ _ ∧ Below _ _ _›).2.2; have hqz := hq.size; refine (HSY.out _ _ _ ((YC.below hq).more hqz) ((YY.below hq).more hqz)).mono ?_; rintro e v12 ⟨rfl, hb12⟩; have tok13 : True := trivial; have hqs12 := hq.size; have hs12 := hb12.size; (try simp at hqs12); (try simp at hs12)) | (go_at_call 36; refine (HCB.out _).mono ?_; rintro e v13 ⟨rfl, rfl⟩) | (go_at_call 34; have _t := tok13; clear _t tok13; have hq := (‹_ ∧ _ ∧ Below _ _ _›).2.2; have hqz := hq.size; refine (HVT.out _ _ _ ((YT.below hq).more hqz)).mono ?_; rintro e v14 ⟨rfl, hb13⟩; have tok14 : True := trivial; have hqs13 := hq.size; have hs13 := hb13.size; (try simp at hqs13); (try simp at hs13)) | (go_at_call 34; have _t := tok14; clear _t tok14; have hq := (‹_ ∧ _ ∧ Below _ _ _›).2.2; have hqz := hq.size; refine (HVC.out _ ((YC.below hq).more hqz)).mono ?_; rintro e v15 ⟨rfl, hb14⟩; have tok15 : True := trivial; have hqs14 := hq.size; have hs14 := hb14.size; (try simp at hqs14); (try simp at hs14)))
      all_goals (go_wp2_with fail)
      all_goals (go_ret)
      all_goals (exact ⟨rfl, hb1.trans (Below.mono (gC_wr.trans (Below.mono (‹_ ∧ _ ∧ Below _ _ _›).2.2 gC_wr.size)) hb1.size)⟩)
end Go.Proofs.Yteffbjddgdjkmaa.fnSides
