/- FnDrafts: the walk. -/
import Derived.BigQuiet
import Derived.Deep.DeepCutAuto
import Derived.Lib.QuietBelow
import Derived.Test.YteffbjddgdjkmaaRows
import Derived.Test.YteffbjddgdjkmaaQDz
import Derived.Test.YteffbjddgdjkmaaQDh
import Derived.Test.YteffbjddgdjkmaaQDf
import Derived.Test.YteffbjddgdjkmaaQDu
namespace Go.Proofs.Yteffbjddgdjkmaa.fnDrafts
open Go.ChangeShapes Go.WideShapes Go.ChangeAt Go.RowKit
set_option linter.unusedVariables false
set_option linter.unusedSimpArgs false
set_option maxRecDepth 10000
theorem leafK {wf w0 : World} {b g : Nat} {d f : Int} {ss : List ByteArray} {A : Option Addr} {c : Nat} {z0 z1 z2 : Value} (hk : wf.heap[g]? = some (.cells #[z0, z1, z2] 26 (0, 0))) (ho : OwnS wf b wf.heap.size A c ss) (hb : Below b w0 wf) (hg : b ≤ g) :
    (((wf.setCell ⟨g, 0, none⟩ (.int .i64 d)).setCell ⟨g, 1, none⟩ (.int .i64 f)).setCell ⟨g, 2, none⟩ (.slice A ss.length c)).heap[g]? = some (.cells #[.int .i64 d, .int .i64 f, .slice A ss.length c] 26 (0, 0)) ∧ OwnS (((wf.setCell ⟨g, 0, none⟩ (.int .i64 d)).setCell ⟨g, 1, none⟩ (.int .i64 f)).setCell ⟨g, 2, none⟩ (.slice A ss.length c)) b (((wf.setCell ⟨g, 0, none⟩ (.int .i64 d)).setCell ⟨g, 1, none⟩ (.int .i64 f)).setCell ⟨g, 2, none⟩ (.slice A ss.length c)).heap.size A c ss ∧ b ≤ g ∧ Below b w0 (((wf.setCell ⟨g, 0, none⟩ (.int .i64 d)).setCell ⟨g, 1, none⟩ (.int .i64 f)).setCell ⟨g, 2, none⟩ (.slice A ss.length c)) := by
  refine ⟨by have := blk_set (blk_set (blk_set hk 0 (.int .i64 d)) 1 (.int .i64 f)) 2 (.slice A ss.length c); simpa using this, ?_, hg, ?_⟩
  · exact (ho.box hk (by decide) (by repeat (first | (with_reducible exact World.grownBy.refl _ _) | (with_reducible refine only_setCell ?_ (.inl rfl) _)))).wide (Nat.le_refl _) (by simp [World.setCell])
  · exact bel
theorem leafKN {wf w0 : World} {b g : Nat} {d f : Int} {ss : List ByteArray} {A : Option Addr} {c : Nat} (hb : Below b w0 wf) (ho : OwnS wf b wf.heap.size A c ss) (hg : g = wf.heap.size) (hg2 : b ≤ g) :
    (wf.alloc (.cells #[.int .i64 d, .int .i64 f, .slice A ss.length c] 26)).heap[g]? = some (.cells #[.int .i64 d, .int .i64 f, .slice A ss.length c] 26 (0, 0)) ∧ OwnS (wf.alloc (.cells #[.int .i64 d, .int .i64 f, .slice A ss.length c] 26)) b (wf.alloc (.cells #[.int .i64 d, .int .i64 f, .slice A ss.length c] 26)).heap.size A c ss ∧ b ≤ g ∧ Below b w0 (wf.alloc (.cells #[.int .i64 d, .int .i64 f, .slice A ss.length c] 26)) := by
  subst hg
  exact ⟨blk_new_at _ _ rfl, (ho.alloc _).wide (Nat.le_refl _) (by simp), hg2, bel⟩
set_option maxHeartbeats 25600000 in
theorem walkDrafts (A : Option Addr) (c : Nat) (bs : List Int) (w : World) (hK : Code w w.heap.size A bs) :
    Calls Try.prog 8 #[.slice A bs.length c] w fun e w' => e = .returned (.bool true) ∧ Below w.heap.size w w' := by
  have hnb := hK.nb
  have hd : decide (1048576 < bs.length) = false := by simp; omega
  go_enter Try.func8, Try.ntmps8
  go_wp2_with (go_at_call 10; refine (l_big _ _ _ _ (by omega)).mono ?_; rw [hd]; rintro e w' ⟨rfl, rfl⟩)
  refine (s_DrawDraft w.heap.size A c bs w hK (Nat.le_refl _)).mono ?_
  rintro e w1 ⟨d1, f1, ss1, d2, f2, ss2, st, A1, a1, A2, a2, A3, a3, hok, hz, hst, rfl, o_D, G_⟩
  have s_w1 := G_.size
  obtain ⟨_, hq1, hq2, _⟩ := draftOk_iff.1 hok
  simp only at hq1 hq2
  subst hq1 hq2
  have hcd := draft_card hok
  simp only at hcd
  have hcb := card_bounds hcd
  obtain ⟨d, rfl⟩ : ∃ d' : Nat, d1 = d' := ⟨d1.toNat, by omega⟩
  obtain ⟨f, rfl⟩ : ∃ f' : Nat, f1 = f' := ⟨f1.toNat, by omega⟩
  have hl0 : 0 < ss2.length := by omega
  have HOK := Lib.hid hok
  have HZ := hide hz
  have hdb := hcb.1
  have hs0z : ss2[0].size ≤ 16777216 := by have := hcb.2.2 _ (List.getElem_mem hl0); omega
  obtain ⟨ss0, hss0⟩ : ∃ x, ss2[0] = x := ⟨_, rfl⟩
  have HSS := Lib.hid hss0
  rw [hss0] at hs0z
  have HCD := Lib.hid hcd
  have HRD := hide (fun (W : World) (h : OwnD W w.heap.size W.heap.size A1 a1 A2 a2 A3 a3 ⟨(d : Int), (f : Int), ss1, (d : Int), (f : Int), ss2, st⟩) => h.rd (HZ.out.more (by omega)))
  clear hok hz hcd hcb hK hss0
  go_wp2
  obtain ⟨w2, e_⟩ : ∃ x, x = (w1.alloc (.cells #[.int .i64 (d : Int), .int .i64 (f : Int), .slice A1 ss1.length a1, .int .i64 (d : Int), .int .i64 (f : Int), .slice A2 ss2.length a2, .slice A3 st.length a3] 83)) := ⟨_, rfl⟩
  have hX_ : Boxy w1 w2 := by rw [e_]; exact boxy
  have z_ : Below w.heap.size w1 w2 := by rw [e_]; exact bel
  have k_d : w2.heap[w1.heap.size]? = some (.cells #[.int .i64 (d : Int), .int .i64 (f : Int), .slice A1 ss1.length a1, .int .i64 (d : Int), .int .i64 (f : Int), .slice A2 ss2.length a2, .slice A3 st.length a3] 83 (0, 0)) := by rw [e_]; exact (blk_new_at _ _ (by simp))
  replace o_D := o_D.boxy hX_
  replace G_ : Below w.heap.size w w2 := G_.trans z_
  have s_w2 : w1.heap.size ≤ w2.heap.size := by rw [e_]; simp [World.setCell]; try omega
  obtain ⟨bd, eb_⟩ : ∃ x, x = w1.heap.size := ⟨_, rfl⟩
  rw [← eb_] at k_d
  have l_d : w.heap.size ≤ bd := by omega
  have eb_d := eb_; clear eb_
  rw [← e_]
  clear e_ hX_ z_ 
  try rw [← eb_d]
  clear eb_d
  have o_D : OwnD w2 w.heap.size w2.heap.size A1 a1 A2 a2 A3 a3 ⟨(d : Int), (f : Int), ss1, (d : Int), (f : Int), ss2, st⟩ := ⟨o_D.o1.wide (Nat.le_refl _) s_w2, o_D.o2.wide (Nat.le_refl _) s_w2, o_D.o3.wide (Nat.le_refl _) s_w2, o_D.ne⟩
  go_loopw [4, 5] (fun r q wr => ∃ (j : Nat) (R : Int), j ≤ st.length ∧ q = .int .i64 (j : Int) ∧ r = .int .i64 R ∧ Hid (R = gainSum (st.take j)) ∧ wr.heap[bd]? = some (.cells #[.int .i64 (d : Int), .int .i64 (f : Int), .slice A1 ss1.length a1, .int .i64 (d : Int), .int .i64 (f : Int), .slice A2 ss2.length a2, .slice A3 st.length a3] 83 (0, 0)) ∧ OwnD wr w.heap.size wr.heap.size A1 a1 A2 a2 A3 a3 ⟨(d : Int), (f : Int), ss1, (d : Int), (f : Int), ss2, st⟩ ∧ Below w.heap.size w wr) (fun _ q _ => st.length - (intOf q).toNat)
  case atStart => exact ⟨0, 0, Nat.zero_le _, rfl, rfl, rfl, k_d, o_D, G_⟩
  case round =>
    clear k_d o_D G_
    obtain ⟨j, R, hj, rfl, rfl, HR, k_d, o_D, G_⟩ := hrel
    have s_wr := G_.size
    by_cases hlt : j < st.length
    · obtain ⟨hkl, ad, rfl, hab, e0, e1, e2, e3, e4, e5, e6, hsb, hsa⟩ := (HRD.out _ o_D).st.at_ hlt
      have hg := good_at HOK.out hkl
      have hgt := gain_take hkl
      have hgb := gain_bd HOK.out j hj
      simp only at hg hgt hgb
      rw [← HR.out] at hgt hgb
      obtain ⟨s, hs⟩ : ∃ s, st[j] = s := ⟨_, rfl⟩
      rw [hs] at e0 e1 e2 e3 e4 e5 e6 hsb hsa hg hgt
      clear hs
      obtain ⟨K, F, L, T_, I, sb, sa⟩ := s
      obtain ⟨⟨hF0, hF1, hL0, hL1⟩, hKK, _⟩ := hg
      simp only at e0 e1 e2 e3 e4 e5 e6 hsb hsa hF0 hF1 hL0 hL1 hKK
      have HGT := Lib.hid hgt
      clear hgt
      obtain ⟨x0, x1, x2, x3, x4, x5, x6, xl⟩ := blk7 k_d
      rcases hKK with rfl | rfl | rfl
      · skip
        go_wp2
        have hsA : wr.heap.size ≤ (wr.alloc (.cells #[.int .i64 1, .int .i64 F, .int .i64 L, .int .i64 T_, .int .i64 I, .string sb, .string sa] 86)).heap.size := by simp
        go_roundw
        case rel =>
          have o_D2 := o_D.alloc (.cells #[.int .i64 1, .int .i64 F, .int .i64 L, .int .i64 T_, .int .i64 I, .string sb, .string sa] 86)
          exact ⟨j + 1, _, by omega, by go_num, rfl, (by unfold Hid; rw [HGT.out, gain_12 rfl]; (try simp only); try omega), blk_alloc k_d _, ⟨o_D2.o1.wide (Nat.le_refl _) hsA, o_D2.o2.wide (Nat.le_refl _) hsA, o_D2.o3.wide (Nat.le_refl _) hsA, o_D2.ne⟩, G_.trans ((Below.refl _ _).alloc s_wr _)⟩
        case measure => simp [intOf]; omega
      · skip
        go_wp2
        have hsA : wr.heap.size ≤ (wr.alloc (.cells #[.int .i64 2, .int .i64 F, .int .i64 L, .int .i64 T_, .int .i64 I, .string sb, .string sa] 86)).heap.size := by simp
        go_roundw
        case rel =>
          have o_D2 := o_D.alloc (.cells #[.int .i64 2, .int .i64 F, .int .i64 L, .int .i64 T_, .int .i64 I, .string sb, .string sa] 86)
          exact ⟨j + 1, _, by omega, by go_num, rfl, (by unfold Hid; rw [HGT.out, gain_2 rfl]; (try simp only); try omega), blk_alloc k_d _, ⟨o_D2.o1.wide (Nat.le_refl _) hsA, o_D2.o2.wide (Nat.le_refl _) hsA, o_D2.o3.wide (Nat.le_refl _) hsA, o_D2.ne⟩, G_.trans ((Below.refl _ _).alloc s_wr _)⟩
        case measure => simp [intOf]; omega
      · skip
        go_wp2
        have k_s := blk_new wr (.cells #[.int .i64 3, .int .i64 F, .int .i64 L, .int .i64 T_, .int .i64 I, .string sb, .string sa] 86)
        have k_d2 := blk_alloc k_d (.cells #[.int .i64 3, .int .i64 F, .int .i64 L, .int .i64 T_, .int .i64 I, .string sb, .string sa] 86)
        have o_D2 := o_D.alloc (.cells #[.int .i64 3, .int .i64 F, .int .i64 L, .int .i64 T_, .int .i64 I, .string sb, .string sa] 86)
        have G2 : Below w.heap.size w (wr.alloc (.cells #[.int .i64 3, .int .i64 F, .int .i64 L, .int .i64 T_, .int .i64 I, .string sb, .string sa] 86)) := G_.trans ((Below.refl _ _).alloc s_wr _)
        have hsA : wr.heap.size ≤ (wr.alloc (.cells #[.int .i64 3, .int .i64 F, .int .i64 L, .int .i64 T_, .int .i64 I, .string sb, .string sa] 86)).heap.size := by simp
        generalize wr.alloc (.cells #[.int .i64 3, .int .i64 F, .int .i64 L, .int .i64 T_, .int .i64 I, .string sb, .string sa] 86) = wA at *
        clear e0 e1 e2 e3 e4 e5 e6 x0 x1 x2 x3 x4 x5 x6 xl
        obtain ⟨y0, y1, y2, y3, y4, y5, y6, yl⟩ := blk7 k_s
        have q3 := cell_regrown y5
        have q4 := cell_regrown y6
        have ra := roomOf_bd sa.data.toList
        have rb := roomOf_bd sb.data.toList
        have ka := fun (W : World) => s_RoomUnder sa W hsa
        have kb := fun (W : World) => s_RoomUnder sb W hsb
        have hgain := gain_3 (s := ⟨3, F, L, T_, I, sb, sa⟩) rfl
        simp only at hgain
        obtain ⟨RA, hRA⟩ : ∃ x, roomOf sa.data.toList = x := ⟨_, rfl⟩
        obtain ⟨RB, hRB⟩ : ∃ x, roomOf sb.data.toList = x := ⟨_, rfl⟩
        rw [hRA] at ra ka hgain
        rw [hRB] at rb kb hgain
        have cA := fun d_ os => Calls.regrown_of (ka (Go.Sort.grow (redrawn wA d_) os))
        have cB := fun d_ os => Calls.regrown_of (kb (Go.Sort.grow (redrawn wA d_) os))
        have HGN := Lib.hid hgain
        clear ka kb hRA hRB hgain y0 y1 y2 y3 y4
        refine wp_region_quiet_below (by kernel_rfl) (lexB_of (by kernel_rfl)) ?_
        try dsimp only [List.append]
        repeat (go_big_quiet_step (first | (go_at_call_of 29 (Value.string sa); exact cA _ _) | (go_at_call_of 29 (Value.string sb); exact cB _ _)))
        refine wpQuiet_nil ?_
        intro _ hw'
        obtain ⟨⟨dq, osq⟩, hw''⟩ := hw'
        subst hw''
        have hbg := below_regrown wA dq osq
        have hsg := hbg.size
        generalize Go.Sort.grow (redrawn wA dq) osq = wB at *
        go_wp2
        go_roundw
        case rel =>
          have o_D3 := o_D2.below hbg
          exact ⟨j + 1, _, by omega, by go_num, rfl, (by unfold Hid; rw [HGT.out, HGN.out]; try omega), blk_next k_d2 hbg, ⟨o_D3.o1.wide (Nat.le_refl _) (by omega), o_D3.o2.wide (Nat.le_refl _) (by omega), o_D3.o3.wide (Nat.le_refl _) (by omega), o_D3.ne⟩, G2.trans (hbg.mono G2.size)⟩
        case measure => simp [intOf]; omega
    · have hjn : j = st.length := by omega
      subst hjn
      have HRG : Hid (R = gainOf ⟨(d : Int), (f : Int), ss1, (d : Int), (f : Int), ss2, st⟩) := by
        unfold Hid
        rw [draft_gain HOK.out, HR.out, List.take_length]
      have hbdw : w.heap.size ≤ bd ∨ True := .inr trivial
      clear HR hlt hj
      obtain ⟨x0d, x1d, x2d, x3d, x4d, x5d, x6d, xld⟩ := blk7 k_d
      go_wp2
      clear x0d x1d x2d x3d x4d x5d x6d xld
      have q_d := blk_lt k_d
      obtain ⟨w11, e_⟩ : ∃ x, x = (wr.alloc (.cells #[.int .i64 (d : Int), .int .i64 (f : Int), .slice A1 ss1.length a1, .int .i64 (d : Int), .int .i64 (f : Int), .slice A2 ss2.length a2, .slice A3 st.length a3] 83)) := ⟨_, rfl⟩
      have hX_ : Boxy wr w11 := by rw [e_]; exact boxy
      have z_ : Below w.heap.size wr w11 := by rw [e_]; exact bel
      replace k_d := hkw e_ (blk_alloc k_d _)
      have k_x : w11.heap[wr.heap.size]? = some (.cells #[.int .i64 (d : Int), .int .i64 (f : Int), .slice A1 ss1.length a1, .int .i64 (d : Int), .int .i64 (f : Int), .slice A2 ss2.length a2, .slice A3 st.length a3] 83 (0, 0)) := by rw [e_]; exact (blk_new_at _ _ (by simp))
      replace o_D := o_D.boxy hX_
      replace G_ : Below w.heap.size w w11 := G_.trans z_
      have s_w11 : wr.heap.size ≤ w11.heap.size := by rw [e_]; simp [World.setCell]; try omega
      obtain ⟨bx, eb_⟩ : ∃ x, x = wr.heap.size := ⟨_, rfl⟩
      rw [← eb_] at k_x
      have l_x : w.heap.size ≤ bx := by omega
      have d_dx : bd < bx := by omega
      have eb_x := eb_; clear eb_
      rw [← e_]
      clear e_ hX_ z_ q_d
      try rw [← eb_x]
      clear eb_x
      have p_all := part_all HOK.out
      simp only at p_all
      have o_X : OwnDW w11 w.heap.size w11.heap.size A1 a1 A2 a2 A3 a3 ⟨(d : Int), (f : Int), ss1, (d : Int), (f : Int), ss2, st⟩ := OwnDW.of ⟨o_D.o1.wide (Nat.le_refl _) (by omega), o_D.o2.wide (Nat.le_refl _) (by omega), o_D.o3.wide (Nat.le_refl _) (by omega), o_D.ne⟩
      have o_D : OwnD w11 w.heap.size w11.heap.size A1 a1 A2 a2 A3 a3 ⟨(d : Int), (f : Int), ss1, (d : Int), (f : Int), ss2, st⟩ := ⟨o_D.o1.wide (Nat.le_refl _) (by omega), o_D.o2.wide (Nat.le_refl _) (by omega), o_D.o3.wide (Nat.le_refl _) (by omega), o_D.ne⟩
      go_loopw [9] (fun q wr => ∃ (k K : Nat) (sk : List ByteArray) (X1 : Option Addr) (x1 : Nat) (X2 : Option Addr) (x2 : Nat) (X3 : Option Addr) (x3 : Nat), k ≤ st.length ∧ (K + k ≤ st.length ∧ st.length ≤ K + k) ∧ q = .int .i64 (k : Int) ∧ Hid (Part ⟨(d : Int), (f : Int), ss1, (d : Int), (f : Int), ss2, st⟩ K sk) ∧ wr.heap[bx]? = some (.cells #[.int .i64 (d : Int), .int .i64 (f : Int), .slice X1 ss1.length x1, .int .i64 (d : Int), .int .i64 (f : Int), .slice X2 sk.length x2, .slice X3 K x3] 83 (0, 0)) ∧ wr.heap[bd]? = some (.cells #[.int .i64 (d : Int), .int .i64 (f : Int), .slice A1 ss1.length a1, .int .i64 (d : Int), .int .i64 (f : Int), .slice A2 ss2.length a2, .slice A3 st.length a3] 83 (0, 0)) ∧ OwnDW wr w.heap.size wr.heap.size X1 x1 X2 x2 X3 x3 ⟨(d : Int), (f : Int), ss1, (d : Int), (f : Int), sk, (st.take K)⟩ ∧ OwnD wr w.heap.size wr.heap.size A1 a1 A2 a2 A3 a3 ⟨(d : Int), (f : Int), ss1, (d : Int), (f : Int), ss2, st⟩ ∧ Below w.heap.size w wr) (fun q _ => st.length - (intOf q).toNat)
      case atStart => exact ⟨0, st.length, ss2, A1, a1, A2, a2, A3, a3, Nat.zero_le _, ⟨Nat.le_refl _, Nat.le_refl _⟩, rfl, p_all, k_x, k_d, by rw [List.take_length]; exact o_X, o_D, G_⟩
      case round =>
        clear k_x k_d o_X o_D G_ p_all
        obtain ⟨k, K, sk, X1, x1, X2, x2, X3, x3, hk, ⟨hK1, hK2⟩, rfl, HP, k_x, k_d, o_X, o_D, G_⟩ := hrel
        have hpc := draft_card HP.out.ok
        simp only at hpc
        have hkb := card_bounds hpc
        have hskz : ∀ s ∈ sk, s.size ≤ 16777216 := fun s hs => by have := hkb.2.2 s hs; omega
        have hskn : sk.length ≤ 16777216 := by have := hkb.2.1.2; omega
        have HSK := hide hskz
        have hss1z : ∀ s ∈ ss1, s.size ≤ 16777216 := HZ.out.z1
        have hzx : OkDraft (PDraft.mk (d : Int) (f : Int) ss1 (d : Int) (f : Int) sk (st.take K)) 16777216 := ⟨by have := HZ.out.l1; simp only at this ⊢; omega, hskn, by show (st.take K).length ≤ _; rw [List.length_take]; omega, HZ.out.z1, hskz, fun s hs => HZ.out.z3 s (List.mem_of_mem_take hs)⟩
        have HZX := hide hzx
        clear hpc hkb hskz hzx hss1z
        have s_wr := G_.size
        by_cases hlt : k < st.length
        · skip
          obtain ⟨K1, hKK⟩ : ∃ K1, K1 + 1 = K := ⟨K - 1, by omega⟩
          have hkK : K1 < st.length := by omega
          obtain ⟨sp, hpart⟩ := part_of HOK.out K1
          have HPart := Lib.hid hpart
          have hP2 := HP.out
          rw [← hKK] at hP2
          have hund := part_undo HOK.out hkK hpart hP2
          have hstep := part_step hkK hpart hP2
          have hback := part_back HOK.out hkK hpart hP2
          have hpc := draft_card hpart.ok
          simp only at hpc hund hstep hback
          have hkb := card_bounds hpc
          have hspz : ∀ s ∈ sp, s.size ≤ 16777216 := fun s hs => by have := hkb.2.2 s hs; omega
          have hspn : sp.length ≤ 16777216 := by have := hkb.2.1.2; omega
          have HSP := hide hspz
          have hzy : OkDraft (PDraft.mk (d : Int) (f : Int) ss1 (d : Int) (f : Int) sp (st.take K1)) 16777216 := ⟨by have := HZ.out.l1; simp only at this ⊢; omega, hspn, by show (st.take K1).length ≤ _; rw [List.length_take]; omega, HZ.out.z1, hspz, fun s hs => HZ.out.z3 s (List.mem_of_mem_take hs)⟩
          have HZY := hide hzy
          have htk : (st.take K).length = K := by rw [List.length_take]; omega
          have htk1 : (st.take K1).length = K1 := by rw [List.length_take]; omega
          have HTK := Lib.hid htk
          have HTK1 := Lib.hid htk1
          have kU : ∀ W : World, OwnDW W w.heap.size W.heap.size X1 x1 X2 x2 X3 x3 ⟨(d : Int), (f : Int), ss1, (d : Int), (f : Int), sk, (st.take K)⟩ → Calls Try.prog 62 #[.agg #[.int .i64 (d : Int), .int .i64 (f : Int), .slice X1 ss1.length x1, .int .i64 (d : Int), .int .i64 (f : Int), .slice X2 sk.length x2, .slice X3 K x3]] W fun e w' => ∃ (Y1 : Option Addr) (y1 : Nat) (Y2 : Option Addr) (y2 : Nat) (Y3 : Option Addr) (y3 : Nat), e = .returned (.tuple #[.agg #[.int .i64 (d : Int), .int .i64 (f : Int), .slice Y1 ss1.length y1, .int .i64 (d : Int), .int .i64 (f : Int), .slice Y2 sp.length y2, .slice Y3 K1 y3], .bool true]) ∧ OwnDW w' W.heap.size w'.heap.size Y1 y1 Y2 y2 Y3 y3 ⟨(d : Int), (f : Int), ss1, (d : Int), (f : Int), sp, (st.take K1)⟩ ∧ Below W.heap.size W w' := by
            intro W h
            have q := i_UndoStep ⟨(d : Int), (f : Int), ss1, (d : Int), (f : Int), sk, (st.take K)⟩ W.heap.size X1 X2 X3 x1 x2 x3 W (h.rd HZX.out) (Nat.le_refl _)
            have hu := hund
            rw [hKK] at hu
            rw [hu] at q
            unfold draftV at q
            simp only [HTK.out] at q
            refine q.mono ?_
            rintro e w' ⟨Y1, y1, Y2, y2, Y3, y3, rfl, ho, hb⟩
            refine ⟨Y1, y1, Y2, y2, Y3, y3, ?_, ho, hb⟩
            simp only [HTK1.out]
          have kOk : ∀ (Y1 : Option Addr) (y1 : Nat) (Y2 : Option Addr) (y2 : Nat) (Y3 : Option Addr) (y3 : Nat) (W : World), OwnDW W w.heap.size W.heap.size Y1 y1 Y2 y2 Y3 y3 ⟨(d : Int), (f : Int), ss1, (d : Int), (f : Int), sp, (st.take K1)⟩ → Calls Try.prog 63 #[.agg #[.int .i64 (d : Int), .int .i64 (f : Int), .slice Y1 ss1.length y1, .int .i64 (d : Int), .int .i64 (f : Int), .slice Y2 sp.length y2, .slice Y3 K1 y3]] W fun e w' => e = .returned (.bool true) ∧ Below W.heap.size W w' := by
            intro Y1 y1 Y2 y2 Y3 y3 W h
            have q := i_DraftOk ⟨(d : Int), (f : Int), ss1, (d : Int), (f : Int), sp, (st.take K1)⟩ W.heap.size Y1 Y2 Y3 y1 y2 y3 W (h.rd HZY.out) (Nat.le_refl _)
            rw [HPart.out.ok] at q
            unfold draftV at q
            simp only [HTK1.out] at q
            exact q
          have hKi : (K : Int) - 1 = (K1 : Int) := by omega
          have hK1i : (K1 : Int) < (st.length : Int) := by omega
          have HKU := hide kU
          have HKO := hide kOk
          have HST := Lib.hid hstep
          have HBK := Lib.hid hback
          have hKK1 : K1 < K := by omega
          have hKK2 : K ≤ K1 + 1 := by omega
          clear kU kOk hund hstep hback hpc hkb hspz hzy htk htk1 hpart hP2 hKK
          obtain ⟨x0x, x1x, x2x, x3x, x4x, x5x, x6x, xlx⟩ := blk7 k_x
          obtain ⟨x0d, x1d, x2d, x3d, x4d, x5d, x6d, xld⟩ := blk7 k_d
          go_wp2_with fail
          clear x0x x1x x2x x3x x4x x5x x6x xlx x0d x1d x2d x3d x4d x5d x6d xld
          refine (HKU.out wr o_X).mono ?_
          rintro e w21 ⟨Y1, y1, Y2, y2, Y3, y3, rfl, o_Y, z_⟩
          replace k_d := blk_next k_d z_
          replace k_x := blk_next k_x z_
          replace o_X := o_X.below z_
          replace o_D := o_D.below z_
          replace G_ := G_.trans (z_.mono G_.size)
          have s_w21 := z_.size
          clear z_
          have hg9_ := G_.size
          have o_Y := o_Y.wide (show w.heap.size ≤ wr.heap.size from by omega) (Nat.le_refl _)
          clear hg9_
          obtain ⟨x0x, x1x, x2x, x3x, x4x, x5x, x6x, xlx⟩ := blk7 k_x
          go_wp2_with fail
          clear x0x x1x x2x x3x x4x x5x x6x xlx
          have q_d := blk_lt k_d
          have q_x := blk_lt k_x
          obtain ⟨w22, e_⟩ : ∃ x, x = (w21.alloc (.cells #[.int .i64 (d : Int), .int .i64 (f : Int), .slice Y1 ss1.length y1, .int .i64 (d : Int), .int .i64 (f : Int), .slice Y2 sp.length y2, .slice Y3 K1 y3] 83)) := ⟨_, rfl⟩
          have hX_ : Boxy w21 w22 := by rw [e_]; exact boxy
          have z_ : Below w.heap.size w21 w22 := by rw [e_]; exact bel
          replace k_d := hkw e_ (blk_alloc k_d _)
          replace k_x := hkw e_ (blk_alloc k_x _)
          have k_v : w22.heap[w21.heap.size]? = some (.cells #[.int .i64 (d : Int), .int .i64 (f : Int), .slice Y1 ss1.length y1, .int .i64 (d : Int), .int .i64 (f : Int), .slice Y2 sp.length y2, .slice Y3 K1 y3] 83 (0, 0)) := by rw [e_]; exact (blk_new_at _ _ (by simp))
          replace o_X := o_X.boxy hX_
          replace o_D := o_D.boxy hX_
          replace o_Y := o_Y.boxy hX_
          replace G_ : Below w.heap.size w w22 := G_.trans z_
          have s_w22 : w21.heap.size ≤ w22.heap.size := by rw [e_]; simp [World.setCell]; try omega
          obtain ⟨bv, eb_⟩ : ∃ x, x = w21.heap.size := ⟨_, rfl⟩
          rw [← eb_] at k_v
          have l_v : w.heap.size ≤ bv := by omega
          have d_dv : bd < bv := by omega
          have d_xv : bx < bv := by omega
          have eb_v := eb_; clear eb_
          rw [← e_]
          clear e_ hX_ z_ q_d q_x
          try rw [← eb_v]
          clear eb_v
          have o_Y := o_Y.wide (Nat.le_refl w.heap.size) (show _ ≤ w22.heap.size from by omega)
          refine (HKO.out Y1 y1 Y2 y2 Y3 y3 w22 o_Y).mono ?_
          rintro e w23 ⟨rfl, z_⟩
          replace k_d := blk_next k_d z_
          replace k_x := blk_next k_x z_
          replace k_v := blk_next k_v z_
          replace o_X := o_X.below z_
          replace o_D := o_D.below z_
          replace o_Y := o_Y.below z_
          replace G_ := G_.trans (z_.mono G_.size)
          have s_w23 := z_.size
          clear z_
          have o_Y := o_Y.wide (Nat.le_refl w.heap.size) (show _ ≤ w23.heap.size from by omega)
          go_wp2
          have o_Dw1 : OwnD w23 w.heap.size w23.heap.size A1 a1 A2 a2 A3 a3 ⟨(d : Int), (f : Int), ss1, (d : Int), (f : Int), ss2, st⟩ := ⟨o_D.o1.wide (Nat.le_refl _) (by omega), o_D.o2.wide (Nat.le_refl _) (by omega), o_D.o3.wide (Nat.le_refl _) (by omega), o_D.ne⟩
          obtain ⟨hkl1, ad1, hA1, hab1, e0, e1, e2, e3, e4, e5, e6, hsb, hsa⟩ := (HRD.out _ o_Dw1).st.at_ hkK
          have kC : ∀ W : World, Below w23.heap.size w23 W → Calls Try.prog 64 #[.agg #[.int .i64 (d : Int), .int .i64 (f : Int), .slice Y2 sp.length y2], .agg #[.int .i64 st[K1].K, .int .i64 st[K1].F, .int .i64 st[K1].L, .int .i64 st[K1].T, .int .i64 st[K1].I, .string st[K1].b, .string st[K1].a]] W fun e w' => ∃ A9 c9, e = .returned (.tuple #[.agg #[.int .i64 (d : Int), .int .i64 (f : Int), .slice A9 sk.length c9], .bool true]) ∧ OwnS w' W.heap.size w'.heap.size A9 c9 sk ∧ Below W.heap.size W w' := by
            intro W hb
            have q := i_StepOn (d : Int) (f : Int) W.heap.size Y2 sp.length y2 sp st[K1].K st[K1].F st[K1].L st[K1].T st[K1].I st[K1].b st[K1].a W (((o_Y.rd HZY.out).s2.below hb).more hb.size) (Nat.le_refl _) hsb hsa
            rw [HST.out] at q
            refine q.mono ?_
            rintro e w' ⟨A9, c9, rfl, ho, hb2⟩
            exact ⟨A9, c9, rfl, OwnS.of ho (Nat.le_refl _), hb2⟩
          have HC := hide kC
          clear kC hsb hsa
          subst hA1
          have hbb : (ad1.add (K1 * 7)).block < w23.heap.size := by rw [block_add]; exact hab1
          obtain ⟨x0d, x1d, x2d, x3d, x4d, x5d, x6d, xld⟩ := blk7 k_d
          obtain ⟨x0x, x1x, x2x, x3x, x4x, x5x, x6x, xlx⟩ := blk7 k_x
          obtain ⟨x0v, x1v, x2v, x3v, x4v, x5v, x6v, xlv⟩ := blk7 k_v
          go_cut [12, 13] (fun s12 s13 wx => ∃ (g9 : Nat) (A9 : Option Addr) (c9 : Nat), s12 = .pointer (some ⟨g9, 0, none⟩) ∧ s13 = .bool true ∧ wx.heap[g9]? = some (.cells #[.int .i64 (d : Int), .int .i64 (f : Int), .slice A9 sk.length c9] 26 (0, 0)) ∧ OwnS wx w23.heap.size wx.heap.size A9 c9 sk ∧ w23.heap.size ≤ g9 ∧ Below w23.heap.size w23 wx)
          case first =>
            go_region_held3 (fun W => (∀ p : Addr, p.block < w23.heap.size → W.cell? p = (w23).cell? p) ∧ (∀ p : Addr, p.block < w23.heap.size → W.frozen? p = (w23).frozen? p) ∧ Below (w23.heap.size) (w23) W) (exact keep_ofP bel) (first | (go_at_call 64; have hq := (‹_ ∧ _ ∧ Below _ _ _›).2.2; refine (HC.out _ hq).mono ?_; rintro e wq ⟨A9, c9, rfl, ho3, hb3⟩; have hqs3 := hq.size; have hbs3 := hb3.size; (try simp at hqs3); (try simp at hbs3); (have hos : OwnS wq w23.heap.size wq.heap.size A9 c9 sk := ho3.wide (by first | exact hq.size | omega) (Nat.le_refl _)); obtain ⟨hcb3, hfb3⟩ := bcell hb3; (try (have hzl1 : w23.heap.size < wq.heap.size := (by omega)))))
            all_goals (go_wp2_with fail)
            all_goals (go_meet)
            all_goals (
              refine ⟨_, A9, c9, rfl, rfl, ?_⟩
              first
                | ((with_reducible refine leafKN ?_ ?_ ?_ ?_); (first | exact bel); (focus ((repeat (first | (with_reducible exact hos) | (with_reducible refine OwnS.drew ?_) | (with_reducible refine OwnS.alloc ?_ _))); (first | done | fail))); (first | rfl | (simp; first | done | fail)); (first | omega | (simp; first | done | omega)))
                | ((with_reducible apply leafK); (case hk => (focus ((repeat (first | (with_reducible exact blk_new_at _ _ (by first | rfl | (simp; first | done | fail))) | (with_reducible refine blk_next ?_ hb3) | (with_reducible refine blk_drew ?_) | (with_reducible refine blk_alloc ?_ _))); (first | done | fail)))); (case ho => (focus ((repeat (first | (with_reducible exact hos) | (with_reducible refine OwnS.drew ?_) | (with_reducible refine OwnS.alloc ?_ _))); (first | done | fail)))); (case hb => exact bel); (case hg => first | omega | (simp; first | done | omega))))
          obtain ⟨bp, Ap, cp, rfl, rfl, k_p, o_p, l_p, hbc⟩ := hcut
          obtain ⟨w91, hwc⟩ : ∃ Q9 : World, Q9 = wc := ⟨_, rfl⟩
          subst hwc
          clear x0d x1d x2d x3d x4d x5d x6d xld x0x x1x x2x x3x x4x x5x x6x xlx x0v x1v x2v x3v x4v x5v x6v xlv
          clear e0 e1 e2 e3 e4 e5 e6 hab1 HC o_Dw1 hbb
          replace k_d := blk_below k_d hbc (blk_lt k_d)
          replace k_x := blk_below k_x hbc (blk_lt k_x)
          replace k_v := blk_below k_v hbc (blk_lt k_v)
          replace o_X := o_X.below hbc
          replace o_D := o_D.below hbc
          replace o_Y := o_Y.below hbc
          replace G_ := G_.trans (hbc.mono G_.size)
          have s_w91 := hbc.size
          clear hbc
          go_wp2
          have o_Dw2 : OwnD w91 w.heap.size w91.heap.size A1 a1 A2 a2 (some ad1) a3 ⟨(d : Int), (f : Int), ss1, (d : Int), (f : Int), ss2, st⟩ := ⟨o_D.o1.wide (Nat.le_refl _) (by omega), o_D.o2.wide (Nat.le_refl _) (by omega), o_D.o3.wide (Nat.le_refl _) (by omega), o_D.ne⟩
          obtain ⟨hkl2, ad2, hA2, hab2, e0, e1, e2, e3, e4, e5, e6, hsb, hsa⟩ := (HRD.out _ o_Dw2).st.at_ hkK
          injection hA2 with hA2
          subst hA2
          have kC : ∀ W : World, Below w91.heap.size w91 W → Calls Try.prog 65 #[.agg #[.int .i64 (d : Int), .int .i64 (f : Int), .slice X2 sk.length x2], .agg #[.int .i64 st[K1].K, .int .i64 st[K1].F, .int .i64 st[K1].L, .int .i64 st[K1].T, .int .i64 st[K1].I, .string st[K1].b, .string st[K1].a]] W fun e w' => ∃ A9 c9, e = .returned (.tuple #[.agg #[.int .i64 (d : Int), .int .i64 (f : Int), .slice A9 sp.length c9], .bool true]) ∧ OwnS w' W.heap.size w'.heap.size A9 c9 sp ∧ Below W.heap.size W w' := by
            intro W hb
            have q := i_StepBack (d : Int) (f : Int) W.heap.size X2 sk.length x2 sk st[K1].K st[K1].F st[K1].L st[K1].T st[K1].I st[K1].b st[K1].a W (((o_X.rd HZX.out).s2.below hb).more hb.size) (Nat.le_refl _) hsb hsa
            rw [HBK.out] at q
            refine q.mono ?_
            rintro e w' ⟨A9, c9, rfl, ho, hb2⟩
            exact ⟨A9, c9, rfl, OwnS.of ho (Nat.le_refl _), hb2⟩
          have HC := hide kC
          clear kC hsb hsa
          have hbb : (ad1.add (K1 * 7)).block < w91.heap.size := by rw [block_add]; exact hab2
          obtain ⟨x0d, x1d, x2d, x3d, x4d, x5d, x6d, xld⟩ := blk7 k_d
          obtain ⟨x0x, x1x, x2x, x3x, x4x, x5x, x6x, xlx⟩ := blk7 k_x
          obtain ⟨x0v, x1v, x2v, x3v, x4v, x5v, x6v, xlv⟩ := blk7 k_v
          go_cut [14, 15] (fun s12 s13 wx => ∃ (g9 : Nat) (A9 : Option Addr) (c9 : Nat), s12 = .pointer (some ⟨g9, 0, none⟩) ∧ s13 = .bool true ∧ wx.heap[g9]? = some (.cells #[.int .i64 (d : Int), .int .i64 (f : Int), .slice A9 sp.length c9] 26 (0, 0)) ∧ OwnS wx w91.heap.size wx.heap.size A9 c9 sp ∧ w91.heap.size ≤ g9 ∧ Below w91.heap.size w91 wx)
          case first =>
            go_region_held3 (fun W => (∀ p : Addr, p.block < w91.heap.size → W.cell? p = (w91).cell? p) ∧ (∀ p : Addr, p.block < w91.heap.size → W.frozen? p = (w91).frozen? p) ∧ Below (w91.heap.size) (w91) W) (exact keep_ofP bel) (first | (go_at_call 65; have hq := (‹_ ∧ _ ∧ Below _ _ _›).2.2; refine (HC.out _ hq).mono ?_; rintro e wq ⟨A9, c9, rfl, ho3, hb3⟩; have hqs3 := hq.size; have hbs3 := hb3.size; (try simp at hqs3); (try simp at hbs3); (have hos : OwnS wq w91.heap.size wq.heap.size A9 c9 sp := ho3.wide (by first | exact hq.size | omega) (Nat.le_refl _)); obtain ⟨hcb3, hfb3⟩ := bcell hb3; (try (have hzl1 : w91.heap.size < wq.heap.size := (by omega)))))
            all_goals (go_wp2_with fail)
            all_goals (go_meet)
            all_goals (
              refine ⟨_, A9, c9, rfl, rfl, ?_⟩
              first
                | ((with_reducible refine leafKN ?_ ?_ ?_ ?_); (first | exact bel); (focus ((repeat (first | (with_reducible exact hos) | (with_reducible refine OwnS.drew ?_) | (with_reducible refine OwnS.alloc ?_ _))); (first | done | fail))); (first | rfl | (simp; first | done | fail)); (first | omega | (simp; first | done | omega)))
                | ((with_reducible apply leafK); (case hk => (focus ((repeat (first | (with_reducible exact blk_new_at _ _ (by first | rfl | (simp; first | done | fail))) | (with_reducible refine blk_next ?_ hb3) | (with_reducible refine blk_drew ?_) | (with_reducible refine blk_alloc ?_ _))); (first | done | fail)))); (case ho => (focus ((repeat (first | (with_reducible exact hos) | (with_reducible refine OwnS.drew ?_) | (with_reducible refine OwnS.alloc ?_ _))); (first | done | fail)))); (case hb => exact bel); (case hg => first | omega | (simp; first | done | omega))))
          obtain ⟨bq, Aq, cq, rfl, rfl, k_q, o_q, l_q, hbc⟩ := hcut
          obtain ⟨w92, hwc⟩ : ∃ Q9 : World, Q9 = wc := ⟨_, rfl⟩
          subst hwc
          clear x0d x1d x2d x3d x4d x5d x6d xld x0x x1x x2x x3x x4x x5x x6x xlx x0v x1v x2v x3v x4v x5v x6v xlv
          clear e0 e1 e2 e3 e4 e5 e6 hab2 HC o_Dw2 hbb
          replace k_d := blk_below k_d hbc (blk_lt k_d)
          replace k_x := blk_below k_x hbc (blk_lt k_x)
          replace k_v := blk_below k_v hbc (blk_lt k_v)
          replace k_p := blk_below k_p hbc (blk_lt k_p)
          replace o_X := o_X.below hbc
          replace o_D := o_D.below hbc
          replace o_Y := o_Y.below hbc
          replace o_p := o_p.below hbc
          replace G_ := G_.trans (hbc.mono G_.size)
          have s_w92 := hbc.size
          clear hbc
          obtain ⟨x0p, x1p, x2p, xlp⟩ := blk3 k_p
          obtain ⟨x0q, x1q, x2q, xlq⟩ := blk3 k_q
          obtain ⟨x0x, x1x, x2x, x3x, x4x, x5x, x6x, xlx⟩ := blk7 k_x
          obtain ⟨x0v, x1v, x2v, x3v, x4v, x5v, x6v, xlv⟩ := blk7 k_v
          go_wp2_with fail
          clear x0p x1p x2p xlp x0q x1q x2q xlq x0x x1x x2x x3x x4x x5x x6x xlx x0v x1v x2v x3v x4v x5v x6v xlv
          refine (s_SameCard (d : Int) (f : Int) (d : Int) (f : Int) w92.heap.size Ap X2 sk.length cp sk.length x2 sk sk w92 (o_p.rd hskn HSK.out) (o_X.rd HZX.out).s2 (Nat.le_refl _)).mono ?_
          rintro e w24 ⟨rfl, z_⟩
          replace k_d := blk_next k_d z_
          replace k_x := blk_next k_x z_
          replace k_v := blk_next k_v z_
          replace k_p := blk_next k_p z_
          replace k_q := blk_next k_q z_
          replace o_X := o_X.below z_
          replace o_D := o_D.below z_
          replace o_Y := o_Y.below z_
          replace o_p := o_p.below z_
          replace o_q := o_q.below z_
          replace G_ := G_.trans (z_.mono G_.size)
          have s_w24 := z_.size
          clear z_
          rw [sameCard_iff.2 ⟨rfl, rfl, rfl⟩]
          obtain ⟨x0q, x1q, x2q, xlq⟩ := blk3 k_q
          obtain ⟨x0v, x1v, x2v, x3v, x4v, x5v, x6v, xlv⟩ := blk7 k_v
          go_wp2_with fail
          clear x0q x1q x2q xlq x0v x1v x2v x3v x4v x5v x6v xlv
          refine (s_SameCard (d : Int) (f : Int) (d : Int) (f : Int) w24.heap.size Aq Y2 sp.length cq sp.length y2 sp sp w24 (o_q.rd hspn HSP.out) (o_Y.rd HZY.out).s2 (Nat.le_refl _)).mono ?_
          rintro e w25 ⟨rfl, z_⟩
          replace k_d := blk_next k_d z_
          replace k_x := blk_next k_x z_
          replace k_v := blk_next k_v z_
          replace k_p := blk_next k_p z_
          replace k_q := blk_next k_q z_
          replace o_X := o_X.below z_
          replace o_D := o_D.below z_
          replace o_Y := o_Y.below z_
          replace o_p := o_p.below z_
          replace o_q := o_q.below z_
          replace G_ := G_.trans (z_.mono G_.size)
          have s_w25 := z_.size
          clear z_
          rw [sameCard_iff.2 ⟨rfl, rfl, rfl⟩]
          obtain ⟨x0v, x1v, x2v, x3v, x4v, x5v, x6v, xlv⟩ := blk7 k_v
          obtain ⟨x0x, x1x, x2x, x3x, x4x, x5x, x6x, xlx⟩ := blk7 k_x
          have f0x := (blk_cells k_x 0).2
          have f1x := (blk_cells k_x 1).2
          have f2x := (blk_cells k_x 2).2
          have f3x := (blk_cells k_x 3).2
          have f4x := (blk_cells k_x 4).2
          have f5x := (blk_cells k_x 5).2
          have f6x := (blk_cells k_x 6).2
          have hgx : boxAt w25 bx := boxAt_of k_x
          have hbxw : w.heap.size ≤ bx := l_x
          have hdx : bd < bx := d_dx
          go_wp2
          go_roundw
          case rel =>
            refine ⟨k + 1, K1, sp, Y1, y1, Y2, y2, Y3, y3, by omega, ⟨by omega, by omega⟩, by go_num, HPart.out, blk7_set k_x _ _ _ _ _ _ _, blk_o7 k_d (show bd ≠ bx by omega) _ _ _ _ _ _ _, ?_, ?_, ?_⟩
            · exact (o_Y.boxy (w' := (((((((w25.setCell ⟨bx, 0, none⟩ (.int .i64 (d : Int))).setCell ⟨bx, 1, none⟩ (.int .i64 (f : Int))).setCell ⟨bx, 2, none⟩ (.slice Y1 ss1.length y1)).setCell ⟨bx, 3, none⟩ (.int .i64 (d : Int))).setCell ⟨bx, 4, none⟩ (.int .i64 (f : Int))).setCell ⟨bx, 5, none⟩ (.slice Y2 sp.length y2)).setCell ⟨bx, 6, none⟩ (.slice Y3 K1 y3))) boxy).wide (Nat.le_refl _) (by simp [World.setCell]; omega)
            · exact (o_D.boxy (w' := (((((((w25.setCell ⟨bx, 0, none⟩ (.int .i64 (d : Int))).setCell ⟨bx, 1, none⟩ (.int .i64 (f : Int))).setCell ⟨bx, 2, none⟩ (.slice Y1 ss1.length y1)).setCell ⟨bx, 3, none⟩ (.int .i64 (d : Int))).setCell ⟨bx, 4, none⟩ (.int .i64 (f : Int))).setCell ⟨bx, 5, none⟩ (.slice Y2 sp.length y2)).setCell ⟨bx, 6, none⟩ (.slice Y3 K1 y3))) boxy).wide (Nat.le_refl _) (by simp [World.setCell]; omega)
            · exact G_.trans (by repeat (first | (with_reducible exact Below.refl _ _) | (with_reducible refine Below.setCell ?_ (show w.heap.size ≤ bx from hbxw) _)))
          case measure => simp [intOf]; omega
        · skip
          have hK0 : K = 0 := by omega
          have hP0 := HP.out
          rw [hK0] at hP0
          have hP1 := (part_zero hP0).symm
          simp only at hP1
          subst hK0
          subst hP1
          rw [List.take_zero] at o_X
          have hzx0 : OkDraft (PDraft.mk (d : Int) (f : Int) ss1 (d : Int) (f : Int) ss1 []) 16777216 := ⟨hskn, hskn, Nat.zero_le _, HSK.out, HSK.out, fun s hs => by cases hs⟩
          have HZ0 := hide hzx0
          have kU : ∀ W : World, OwnDW W w.heap.size W.heap.size X1 x1 X2 x2 X3 x3 ⟨(d : Int), (f : Int), ss1, (d : Int), (f : Int), ss1, []⟩ → Calls Try.prog 62 #[.agg #[.int .i64 (d : Int), .int .i64 (f : Int), .slice X1 ss1.length x1, .int .i64 (d : Int), .int .i64 (f : Int), .slice X2 ss1.length x2, .slice X3 0 x3]] W fun e w' => ∃ (Y1 : Option Addr) (y1 : Nat) (Y2 : Option Addr) (y2 : Nat) (Y3 : Option Addr) (y3 : Nat), e = .returned (.tuple #[.agg #[.int .i64 (d : Int), .int .i64 (f : Int), .slice Y1 ss1.length y1, .int .i64 (d : Int), .int .i64 (f : Int), .slice Y2 ss1.length y2, .slice Y3 0 y3], .bool false]) ∧ Below W.heap.size W w' := by
            intro W h
            have q := i_UndoStep ⟨(d : Int), (f : Int), ss1, (d : Int), (f : Int), ss1, []⟩ W.heap.size X1 X2 X3 x1 x2 x3 W (h.rd HZ0.out) (Nat.le_refl _)
            rw [undoRes_nil rfl] at q
            refine q.mono ?_
            rintro e w' ⟨Y1, y1, Y2, y2, Y3, y3, rfl, ho, hb⟩
            exact ⟨Y1, y1, Y2, y2, Y3, y3, rfl, hb⟩
          have HKU := hide kU
          clear kU hP0 hzx0 HZX
          obtain ⟨x0x, x1x, x2x, x3x, x4x, x5x, x6x, xlx⟩ := blk7 k_x
          obtain ⟨x0d, x1d, x2d, x3d, x4d, x5d, x6d, xld⟩ := blk7 k_d
          go_wp2_with fail
          clear x0x x1x x2x x3x x4x x5x x6x xlx x0d x1d x2d x3d x4d x5d x6d xld
          refine (HKU.out wr o_X).mono ?_
          rintro e w41 ⟨Y1, y1, Y2, y2, Y3, y3, rfl, z_⟩
          replace k_d := blk_next k_d z_
          replace k_x := blk_next k_x z_
          replace o_X := o_X.below z_
          replace o_D := o_D.below z_
          replace G_ := G_.trans (z_.mono G_.size)
          have s_w41 := z_.size
          clear z_
          obtain ⟨x0d, x1d, x2d, x3d, x4d, x5d, x6d, xld⟩ := blk7 k_d
          obtain ⟨x0x, x1x, x2x, x3x, x4x, x5x, x6x, xlx⟩ := blk7 k_x
          go_wp2
          clear x0d x1d x2d x3d x4d x5d x6d xld x0x x1x x2x x3x x4x x5x x6x xlx
          have q_d := blk_lt k_d
          have q_x := blk_lt k_x
          obtain ⟨w42, e_⟩ : ∃ x, x = (w41.alloc (.cells #[.int .i64 (d : Int), .int .i64 (f : Int), .slice Y1 ss1.length y1, .int .i64 (d : Int), .int .i64 (f : Int), .slice Y2 ss1.length y2, .slice Y3 0 y3] 83)) := ⟨_, rfl⟩
          have hX_ : Boxy w41 w42 := by rw [e_]; exact boxy
          have z_ : Below w.heap.size w41 w42 := by rw [e_]; exact bel
          replace k_d := hkw e_ (blk_alloc k_d _)
          replace k_x := hkw e_ (blk_alloc k_x _)
          have k_e : w42.heap[w41.heap.size]? = some (.cells #[.int .i64 (d : Int), .int .i64 (f : Int), .slice Y1 ss1.length y1, .int .i64 (d : Int), .int .i64 (f : Int), .slice Y2 ss1.length y2, .slice Y3 0 y3] 83 (0, 0)) := by rw [e_]; exact (blk_new_at _ _ (by simp))
          replace o_X := o_X.boxy hX_
          replace o_D := o_D.boxy hX_
          replace G_ : Below w.heap.size w w42 := G_.trans z_
          have s_w42 : w41.heap.size ≤ w42.heap.size := by rw [e_]; simp [World.setCell]; try omega
          obtain ⟨be, eb_⟩ : ∃ x, x = w41.heap.size := ⟨_, rfl⟩
          rw [← eb_] at k_e
          have l_e : w.heap.size ≤ be := by omega
          have d_de : bd < be := by omega
          have d_xe : bx < be := by omega
          have eb_e := eb_; clear eb_
          rw [← e_]
          clear e_ hX_ z_ q_d q_x
          try rw [← eb_e]
          clear eb_e
          clear k_e
          have o_D : OwnD w42 w.heap.size w42.heap.size A1 a1 A2 a2 A3 a3 ⟨(d : Int), (f : Int), ss1, (d : Int), (f : Int), ss2, st⟩ := ⟨o_D.o1.wide (Nat.le_refl _) (by omega), o_D.o2.wide (Nat.le_refl _) (by omega), o_D.o3.wide (Nat.le_refl _) (by omega), o_D.ne⟩
          have hsn : w42.ownsRow w.heap.size 9 1 (.slice A2 ss2.length a2) ss2.length (ss2.map Value.string) := o_D.o2.row
          obtain ⟨gS, cap, hv, hbg, hglt⟩ := hsn.form hl0
          have hA2 : A2 = some ⟨gS, 0, none⟩ := by injection hv
          subst hA2
          clear hv
          have hl0i : (0 : Int) < (ss2.length : Int) := by omega
          have hcs1 : w42.cell? ⟨gS, 0, none⟩ = some (.string ss0) := by rw [hsn.cellAt 0 (by omega), List.getElem?_map, List.getElem?_eq_getElem hl0, HSS.out]; rfl
          clear hsn
          obtain ⟨x0d, x1d, x2d, x3d, x4d, x5d, x6d, xld⟩ := blk7 k_d
          go_cut [18] (fun s18 wx => ∃ (g9 : Nat) (t : ByteArray), s18 = .pointer (some ⟨g9, 0, none⟩) ∧ Drew d f t ∧ wx.heap[g9]? = some (.cells #[.int .i64 3, .int .i64 0, .int .i64 0, .int .i64 0, .int .i64 0, .string ss0, .string t] 86 (0, 0)) ∧ w42.heap.size ≤ g9 ∧ Below w42.heap.size w42 wx)
          case first =>
            go_region_held3 (fun W => (∀ p : Addr, p.block < w42.heap.size → W.cell? p = (w42).cell? p) ∧ (∀ p : Addr, p.block < w42.heap.size → W.frozen? p = (w42).frozen? p) ∧ Below (w42.heap.size) (w42) W) (exact keep_ofP bel) (first | (go_at_call 66; refine (s_HighStrip d f _ (by omega) (by omega) (by omega) (by omega)).mono ?_; rintro e wq ⟨t, rfl, hDr, rfl⟩))
            all_goals (go_wp2_with fail)
            all_goals (go_meet)
            all_goals (refine ⟨_, t, rfl, hDr, ?_, ?_, ?_⟩; (repeat (first | (with_reducible exact blk_new_at _ _ (by first | rfl | (simp; done))) | (with_reducible refine blk_drew ?_))); (first | exact Nat.le_refl _ | (simp; done)); (exact bel))
          obtain ⟨bt, t, rfl, hDr, k_t, ht9, hbc⟩ := hcut
          obtain ⟨w93, hwc⟩ : ∃ Q9 : World, Q9 = wc := ⟨_, rfl⟩
          subst hwc
          clear x0d x1d x2d x3d x4d x5d x6d xld
          clear hcs1 hbg hglt
          replace k_d := blk_below k_d hbc (blk_lt k_d)
          replace k_x := blk_below k_x hbc (blk_lt k_x)
          replace o_X := o_X.below hbc
          replace o_D := o_D.below hbc
          replace G_ := G_.trans (hbc.mono G_.size)
          have s_w93 := hbc.size
          clear hbc ht9
          have hput := do_put (D := ⟨(d : Int), (f : Int), ss1, (d : Int), (f : Int), ss2, st⟩) (t := t) HOK.out hst hl0 (high_card HCD.out hDr)
          simp only at hput
          have hzok := draft_do ⟨3, 0, 0, 0, 0, ss2[0], t⟩ HOK.out
          rw [hput] at hzok
          rw [HSS.out] at hput hzok
          have htz : t.size ≤ 16777216 := by have := hDr.2.2; omega
          have hzbd := (doRes_ok ⟨(d : Int), (f : Int), ss1, (d : Int), (f : Int), ss2, st⟩ ⟨3, 0, 0, 0, 0, ss0, t⟩ HZ.out ⟨hs0z, htz⟩)
          rw [hput] at hzbd
          have hzl : 0 < (ss2.set 0 t).length := by rw [List.length_set]; exact hl0
          have hz0 : (ss2.set 0 t)[0]'hzl = t := by simp
          obtain ⟨zs, hzs⟩ : ∃ x, ss2.set 0 t = x := ⟨_, rfl⟩
          have hM : (((st ++ [(⟨3, 0, 0, 0, 0, ss0, t⟩ : PStep)]).length : Nat) : Int) = (st.length : Int) + 1 := by simp
          obtain ⟨sz, hsz⟩ : ∃ x, st ++ [(⟨3, 0, 0, 0, 0, ss0, t⟩ : PStep)] = x := ⟨_, rfl⟩
          obtain ⟨M, hMM⟩ : ∃ x, (st ++ [(⟨3, 0, 0, 0, 0, ss0, t⟩ : PStep)]).length = x := ⟨_, rfl⟩
          rw [hMM] at hM
          rw [hsz] at hMM
          have kDo : ∀ W : World, OwnD W w.heap.size W.heap.size A1 a1 (some ⟨gS, 0, none⟩) a2 A3 a3 ⟨(d : Int), (f : Int), ss1, (d : Int), (f : Int), ss2, st⟩ → Calls Try.prog 67 #[.agg #[.int .i64 (d : Int), .int .i64 (f : Int), .slice A1 ss1.length a1, .int .i64 (d : Int), .int .i64 (f : Int), .slice (some ⟨gS, 0, none⟩) ss2.length a2, .slice A3 st.length a3], .agg #[.int .i64 3, .int .i64 0, .int .i64 0, .int .i64 0, .int .i64 0, .string ss0, .string t]] W fun e w' => ∃ (Z1 : Option Addr) (z1 : Nat) (Z2 : Option Addr) (z2 : Nat) (Z3 : Option Addr) (z3 : Nat), e = .returned (.tuple #[.agg #[.int .i64 (d : Int), .int .i64 (f : Int), .slice Z1 ss1.length z1, .int .i64 (d : Int), .int .i64 (f : Int), .slice Z2 zs.length z2, .slice Z3 M z3], .bool true]) ∧ OwnD w' W.heap.size w'.heap.size Z1 z1 Z2 z2 Z3 z3 ⟨(d : Int), (f : Int), ss1, (d : Int), (f : Int), zs, sz⟩ ∧ Below W.heap.size W w' := by
            intro W h
            have q := i_DoStep ⟨(d : Int), (f : Int), ss1, (d : Int), (f : Int), ss2, st⟩ ⟨3, 0, 0, 0, 0, ss0, t⟩ W.heap.size A1 (some ⟨gS, 0, none⟩) A3 a1 a2 a3 W (h.rd (HZ.out.more (by omega))) (Nat.le_refl _) hs0z htz
            rw [hput, hzs, hsz] at q
            refine q.mono ?_
            rintro e w' ⟨Z1, z1, Z2, z2, Z3, z3, rfl, ho, hb⟩
            refine ⟨Z1, z1, Z2, z2, Z3, z3, ?_, ho, hb⟩
            simp only [hMM]
          rw [hzs, hsz] at hzok hzbd
          have hzl2 : 0 < zs.length := by rw [← hzs]; exact hzl
          have hz2 : zs[0]'hzl2 = t := by subst hzs; exact hz0
          have HZOK := Lib.hid hzok
          have HZBD := hide hzbd
          have HKD := hide kDo
          have HMM := Lib.hid hMM
          have HZ2 := Lib.hid hz2
          clear hput hzok hzbd hzl hz0 hzs hsz hMM kDo hz2
          obtain ⟨x0d, x1d, x2d, x3d, x4d, x5d, x6d, xld⟩ := blk7 k_d
          obtain ⟨x0t, x1t, x2t, x3t, x4t, x5t, x6t, xlt⟩ := blk7 k_t
          go_wp2_with fail
          clear x0d x1d x2d x3d x4d x5d x6d xld x0t x1t x2t x3t x4t x5t x6t xlt
          have o_D : OwnD w93 w.heap.size w93.heap.size A1 a1 (some ⟨gS, 0, none⟩) a2 A3 a3 ⟨(d : Int), (f : Int), ss1, (d : Int), (f : Int), ss2, st⟩ := ⟨o_D.o1.wide (Nat.le_refl _) (by omega), o_D.o2.wide (Nat.le_refl _) (by omega), o_D.o3.wide (Nat.le_refl _) (by omega), o_D.ne⟩
          refine (HKD.out w93 o_D).mono ?_
          rintro e w94 ⟨Z1, z1, Z2, z2, Z3, z3, rfl, o_Z, z_⟩
          replace k_d := blk_next k_d z_
          replace k_x := blk_next k_x z_
          replace k_t := blk_next k_t z_
          replace o_X := o_X.below z_
          replace o_D := o_D.below z_
          replace G_ := G_.trans (z_.mono G_.size)
          have s_w94 := z_.size
          clear z_
          have hzn : ¬ ((zs.length : Nat) : Int) = 0 := by omega
          have hzn2 : ¬ zs.length = 0 := by omega
          have hzi : (0 : Int) < (zs.length : Int) := by omega
          obtain ⟨x0d, x1d, x2d, x3d, x4d, x5d, x6d, xld⟩ := blk7 k_d
          obtain ⟨x0t, x1t, x2t, x3t, x4t, x5t, x6t, xlt⟩ := blk7 k_t
          go_wp2
          clear x0d x1d x2d x3d x4d x5d x6d xld x0t x1t x2t x3t x4t x5t x6t xlt
          have q_d := blk_lt k_d
          have q_x := blk_lt k_x
          have q_t := blk_lt k_t
          obtain ⟨w95, e_⟩ : ∃ x, x = (w94.alloc (.cells #[.int .i64 (d : Int), .int .i64 (f : Int), .slice Z1 ss1.length z1, .int .i64 (d : Int), .int .i64 (f : Int), .slice Z2 zs.length z2, .slice Z3 M z3] 83)) := ⟨_, rfl⟩
          have hX_ : Boxy w94 w95 := by rw [e_]; exact boxy
          have z_ : Below w.heap.size w94 w95 := by rw [e_]; exact bel
          replace k_d := hkw e_ (blk_alloc k_d _)
          replace k_x := hkw e_ (blk_alloc k_x _)
          replace k_t := hkw e_ (blk_alloc k_t _)
          have k_z : w95.heap[w94.heap.size]? = some (.cells #[.int .i64 (d : Int), .int .i64 (f : Int), .slice Z1 ss1.length z1, .int .i64 (d : Int), .int .i64 (f : Int), .slice Z2 zs.length z2, .slice Z3 M z3] 83 (0, 0)) := by rw [e_]; exact (blk_new_at _ _ (by simp))
          replace o_X := o_X.boxy hX_
          replace o_D := o_D.boxy hX_
          replace o_Z := o_Z.boxy hX_
          replace G_ : Below w.heap.size w w95 := G_.trans z_
          have s_w95 : w94.heap.size ≤ w95.heap.size := by rw [e_]; simp [World.setCell]; try omega
          obtain ⟨bz, eb_⟩ : ∃ x, x = w94.heap.size := ⟨_, rfl⟩
          rw [← eb_] at k_z
          have l_z : w.heap.size ≤ bz := by omega
          have d_dz : bd < bz := by omega
          have d_xz : bx < bz := by omega
          have d_tz : bt < bz := by omega
          have eb_z := eb_; clear eb_
          rw [← e_]
          clear e_ hX_ z_ q_d q_x q_t
          try rw [← eb_z]
          clear eb_z
          have hsn : w95.ownsRow w93.heap.size 9 1 (.slice Z2 zs.length z2) zs.length (zs.map Value.string) := o_Z.o2.row
          obtain ⟨gZ, cap, hv, hbg, hglt⟩ := hsn.form hzl2
          have hA2 : Z2 = some ⟨gZ, 0, none⟩ := by injection hv
          subst hA2
          clear hv
          have hcz : w95.cell? ⟨gZ, 0, none⟩ = some (.string t) := by rw [hsn.cellAt 0 (by omega), List.getElem?_map, List.getElem?_eq_getElem hzl2, HZ2.out]; rfl
          clear hsn hbg hglt
          have hRG := HRG.out
          subst hRG
          have o_D9 : OwnD w95 w.heap.size w95.heap.size A1 a1 (some ⟨gS, 0, none⟩) a2 A3 a3 ⟨(d : Int), (f : Int), ss1, (d : Int), (f : Int), ss2, st⟩ := ⟨o_D.o1.wide (Nat.le_refl _) (by omega), o_D.o2.wide (Nat.le_refl _) (by omega), o_D.o3.wide (Nat.le_refl _) (by omega), o_D.ne⟩
          have hRd := HRD.out w95 o_D9
          have hRx := (o_X.rd HZ0.out).s2
          have hRz := o_Z.rd (HZBD.out.more (by omega))
          have zw : ∀ d_ os, Below w95.heap.size w95 (Go.Sort.grow (redrawn w95 d_) os) := fun d_ os => below_regrown w95 d_ os
          have cSame : ∀ d_ os, Calls Try.prog 35 #[.agg #[.int .i64 (d : Int), .int .i64 (f : Int), .slice X2 ss1.length x2], .agg #[.int .i64 (d : Int), .int .i64 (f : Int), .slice A1 ss1.length a1]] (Go.Sort.grow (redrawn w95 d_) os) fun e w'' => e = .returned (.bool true) ∧ ∃ p : Regrown, w'' = Go.Sort.grow (redrawn w95 p.d) p.os := fun d_ os => Calls.regrown_of (by
            have q := s_SameCard (d : Int) (f : Int) (d : Int) (f : Int) w95.heap.size X2 A1 ss1.length x2 ss1.length a1 ss1 ss1 (Go.Sort.grow (redrawn w95 d_) os) (hRx.below (zw d_ os)) (hRd.s1.below (zw d_ os)) (zw d_ os).size
            rw [sameCard_iff.2 ⟨rfl, rfl, rfl⟩] at q
            exact q)
          have cRoom := fun d_ os => Calls.regrown_of (i_RoomGained ⟨(d : Int), (f : Int), ss1, (d : Int), (f : Int), ss2, st⟩ w95.heap.size A1 (some ⟨gS, 0, none⟩) A3 a1 a2 a3 (Go.Sort.grow (redrawn w95 d_) os) (hRd.below (zw d_ os)) (zw d_ os).size)
          have cOk : ∀ d_ os, Calls Try.prog 63 #[.agg #[.int .i64 (d : Int), .int .i64 (f : Int), .slice Z1 ss1.length z1, .int .i64 (d : Int), .int .i64 (f : Int), .slice (some ⟨gZ, 0, none⟩) zs.length z2, .slice Z3 M z3]] (Go.Sort.grow (redrawn w95 d_) os) fun e w'' => e = .returned (.bool true) ∧ ∃ p : Regrown, w'' = Go.Sort.grow (redrawn w95 p.d) p.os := fun d_ os => Calls.regrown_of (by
            have q := i_DraftOk ⟨(d : Int), (f : Int), ss1, (d : Int), (f : Int), zs, sz⟩ w95.heap.size Z1 (some ⟨gZ, 0, none⟩) Z3 z1 z2 z3 (Go.Sort.grow (redrawn w95 d_) os) (hRz.below (zw d_ os)) (zw d_ os).size
            rw [HZOK.out] at q
            unfold draftV at q
            simp only [HMM.out] at q
            exact q)
          unfold draftV at cRoom
          simp only at cRoom
          obtain ⟨hx0, hx1, hx2, hx3, hx4, hx5, hx6, hxl⟩ := blk7 k_x
          have rx0 := cell_regrown hx0
          have rx1 := cell_regrown hx1
          have rx2 := cell_regrown hx2
          have rx3 := cell_regrown hx3
          have rx4 := cell_regrown hx4
          have rx5 := cell_regrown hx5
          have rx6 := cell_regrown hx6
          obtain ⟨hd0, hd1, hd2, hd3, hd4, hd5, hd6, hdl⟩ := blk7 k_d
          have rd0 := cell_regrown hd0
          have rd1 := cell_regrown hd1
          have rd2 := cell_regrown hd2
          have rd3 := cell_regrown hd3
          have rd4 := cell_regrown hd4
          have rd5 := cell_regrown hd5
          have rd6 := cell_regrown hd6
          obtain ⟨hz0, hz1, hz2, hz3, hz4, hz5, hz6, hzl⟩ := blk7 k_z
          have rz0 := cell_regrown hz0
          have rz1 := cell_regrown hz1
          have rz2 := cell_regrown hz2
          have rz3 := cell_regrown hz3
          have rz4 := cell_regrown hz4
          have rz5 := cell_regrown hz5
          have rz6 := cell_regrown hz6
          obtain ⟨ht0, ht1, ht2, ht3, ht4, ht5, ht6, htl⟩ := blk7 k_t
          have rt0 := cell_regrown ht0
          have rt1 := cell_regrown ht1
          have rt2 := cell_regrown ht2
          have rt3 := cell_regrown ht3
          have rt4 := cell_regrown ht4
          have rt5 := cell_regrown ht5
          have rt6 := cell_regrown ht6
          have rcz := cell_regrown hcz
          go_wp2_with fail
          refine wp_region_quiet_below (by kernel_rfl) (lexB_of (by kernel_rfl)) ?_
          try dsimp only [List.append]
          repeat (go_big_quiet_step (first | (go_at_call 35; exact cSame _ _) | (go_at_call 68; exact cRoom _ _) | (go_at_call 63; exact cOk _ _)))
          refine wpQuiet_nil ?_
          intro _ hw'
          obtain ⟨⟨dq, osq⟩, hw''⟩ := hw'
          subst hw''
          go_wp2
          go_ret
          exact ⟨rfl, G_.trans ((zw dq osq).mono G_.size)⟩
end Go.Proofs.Yteffbjddgdjkmaa.fnDrafts
