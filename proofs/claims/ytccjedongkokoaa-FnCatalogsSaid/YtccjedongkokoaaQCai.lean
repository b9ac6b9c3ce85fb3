/- Contracts of the program's and the reference's functions (CatD, CatN). -/
import Derived.Deep.RegionWith
import Derived.Test.YtccjedongkokoaaRows
import Derived.Test.YtccjedongkokoaaQCaf
import Derived.Test.YtccjedongkokoaaQCl
import Derived.Test.YtccjedongkokoaaQCu
import Derived.Test.YtccjedongkokoaaQCj
namespace Go.Proofs.Ytccjedongkokoaa
open Go.ChangeShapes Go.WideShapes Go.ChangeAt Go.RowKit
set_option linter.unusedVariables false
set_option linter.unusedSimpArgs false
set_option maxRecDepth 10000
section
variable {w w' : World} {g B : Nat} {A : Option Addr} {c : Nat} {bs : List Int}
theorem Cur.boxAt (h : Cur w g B A c bs) : boxAt w g := by
  obtain ⟨i, q, h0, h1, hk⟩ := h.blk
  exact boxAt_of hk cur_notin
theorem Cur.boxy (h : Cur w g B A c bs) (hg : w.grownBy w' (some g)) : Boxy w w' :=
  ⟨hg.size, fun k hkl hn => hg.block k hkl (fun e => hn (by injection e with e; subst e; exact h.boxAt))⟩
end
set_option maxHeartbeats 800000 in
theorem s_l01Pick (l : List ByteArray) (A' : Option Addr) (c' lo hi : Nat) (g B : Nat) (A : Option Addr) (c : Nat) (bs : List Int) (w : World) (hC : Cur w g B A c bs) (hO : OwnS w lo hi A' c' l) (h1 : 1 ≤ l.length) (h2 : l.length ≤ 256) :
    Calls Try.prog 141 #[.pointer (some ⟨g, 0, none⟩), .slice A' l.length c'] w fun e w' => ∃ x, x ∈ l ∧ e = .returned (.string x) ∧ Cur w' g B A c bs ∧ w.grownBy w' (some g) := by
  obtain ⟨n, hn⟩ : ∃ n, l.length = n := ⟨_, rfl⟩
  have HN := Lib.hid hn
  rw [hn] at h1 h2 ⊢
  clear hn
  go_enter Try.func141, Try.ntmps141
  go_wp2_with fail
  refine (s_l01Below n g B A c bs w hC (by omega) (by omega)).mono ?_
  rintro e w1 ⟨x, rfl, hx0, hx1, hC1, hg1⟩
  obtain ⟨k, rfl⟩ : ∃ k : Nat, x = k := ⟨x.toNat, by omega⟩
  have ho1 := hO.boxy (hC.boxy hg1)
  have hkn : k < n := by omega
  obtain ⟨ad, u, rfl, hab, hu, hcu⟩ := (Reads.of_own ho1.row).at_ (k := k) (by rw [HN.out]; exact hkn)
  obtain ⟨y, hy, rfl⟩ : ∃ y, y ∈ l ∧ u = .string y := by
    rw [List.getElem?_map] at hu
    obtain ⟨q, hq, hqu⟩ := Option.map_eq_some_iff.1 hu
    exact ⟨q, List.mem_of_getElem? hq, hqu.symm⟩
  clear ho1 hu
  go_wp2
  go_ret
  exact ⟨y, hy, rfl, hC1, hg1⟩
set_option maxHeartbeats 1600000 in
theorem s_l35Name (g B : Nat) (A : Option Addr) (c : Nat) (bs : List Int) (w : World) (hC : Cur w g B A c bs) :
    Calls Try.prog 114 #[.pointer (some ⟨g, 0, none⟩)] w fun e w' => ∃ nm, nm ∈ drawNames ∧ e = .returned (.string nm) ∧ Cur w' g B A c bs ∧ w.grownBy w' (some g) := by
  have hO : OwnS (w.alloc (.cells #[.string ⟨#[97, 114, 99, 104]⟩, .string ⟨#[98, 97, 114, 110]⟩, .string ⟨#[98, 111, 97, 116]⟩, .string ⟨#[98, 114, 105, 100, 103, 101]⟩, .string ⟨#[99, 97, 115, 116, 108, 101]⟩, .string ⟨#[99, 97, 116]⟩, .string ⟨#[99, 104, 97, 105, 114]⟩, .string ⟨#[100, 114, 97, 103, 111, 110]⟩, .string ⟨#[102, 111, 120]⟩, .string ⟨#[104, 111, 117, 115, 101]⟩] 9)) w.heap.size (w.heap.size + 1) (some ⟨w.heap.size, 0, none⟩) 10 drawNames :=
    ⟨World.ownsRow_lit w (base := w.heap.size) (e := 9) (size := 1) #[.string ⟨#[97, 114, 99, 104]⟩, .string ⟨#[98, 97, 114, 110]⟩, .string ⟨#[98, 111, 97, 116]⟩, .string ⟨#[98, 114, 105, 100, 103, 101]⟩, .string ⟨#[99, 97, 115, 116, 108, 101]⟩, .string ⟨#[99, 97, 116]⟩, .string ⟨#[99, 104, 97, 105, 114]⟩, .string ⟨#[100, 114, 97, 103, 111, 110]⟩, .string ⟨#[102, 111, 120]⟩, .string ⟨#[104, 111, 117, 115, 101]⟩] 10 (Nat.le_refl _) (by unfold maxLen; omega) rfl, fun k hk => by simp [Value.ownBlock] at hk; omega⟩
  have hC1 := hC.alloc (.cells #[.string ⟨#[97, 114, 99, 104]⟩, .string ⟨#[98, 97, 114, 110]⟩, .string ⟨#[98, 111, 97, 116]⟩, .string ⟨#[98, 114, 105, 100, 103, 101]⟩, .string ⟨#[99, 97, 115, 116, 108, 101]⟩, .string ⟨#[99, 97, 116]⟩, .string ⟨#[99, 104, 97, 105, 114]⟩, .string ⟨#[100, 114, 97, 103, 111, 110]⟩, .string ⟨#[102, 111, 120]⟩, .string ⟨#[104, 111, 117, 115, 101]⟩] 9)
  have hG1 : w.grownBy (w.alloc (.cells #[.string ⟨#[97, 114, 99, 104]⟩, .string ⟨#[98, 97, 114, 110]⟩, .string ⟨#[98, 111, 97, 116]⟩, .string ⟨#[98, 114, 105, 100, 103, 101]⟩, .string ⟨#[99, 97, 115, 116, 108, 101]⟩, .string ⟨#[99, 97, 116]⟩, .string ⟨#[99, 104, 97, 105, 114]⟩, .string ⟨#[100, 114, 97, 103, 111, 110]⟩, .string ⟨#[102, 111, 120]⟩, .string ⟨#[104, 111, 117, 115, 101]⟩] 9)) (some g) := grown_then (World.grownBy.refl w _) bel
  have kp := fun (W : World) (h1 : Cur W g B A c bs) (h2 : OwnS W w.heap.size (w.heap.size + 1) (some ⟨w.heap.size, 0, none⟩) 10 drawNames) => s_l01Pick drawNames (some ⟨w.heap.size, 0, none⟩) 10 w.heap.size (w.heap.size + 1) g B A c bs W h1 h2 (by decide) (by decide)
  have HKP := hide kp
  clear kp
  go_enter Try.func114, Try.ntmps114
  go_wp2_with fail
  generalize w.alloc (.cells #[.string ⟨#[97, 114, 99, 104]⟩, .string ⟨#[98, 97, 114, 110]⟩, .string ⟨#[98, 111, 97, 116]⟩, .string ⟨#[98, 114, 105, 100, 103, 101]⟩, .string ⟨#[99, 97, 115, 116, 108, 101]⟩, .string ⟨#[99, 97, 116]⟩, .string ⟨#[99, 104, 97, 105, 114]⟩, .string ⟨#[100, 114, 97, 103, 111, 110]⟩, .string ⟨#[102, 111, 120]⟩, .string ⟨#[104, 111, 117, 115, 101]⟩] 9) = w1 at *
  refine (HKP.out w1 hC1 hO).mono ?_
  rintro e w2 ⟨nm, hnm, rfl, hC2, hg2⟩
  go_wp2
  go_ret
  exact ⟨nm, hnm, rfl, hC2, only_trans hG1 hg2⟩
theorem cat_items {P : List PItem} (h : catOk P = true) : OkItems P 1048576 := by
  obtain ⟨h1, h2, _⟩ := catOk_iff.1 h
  refine ⟨by omega, fun x hx => ?_⟩
  obtain ⟨q1, q2⟩ := h2 x hx
  obtain ⟨_, b2, b3⟩ := card_bounds q2
  refine ⟨by omega, fun s hs => by have := b3 s hs; omega, ?_⟩
  unfold nameOk at q1
  simp only [Bool.and_eq_true] at q1
  have := inB_iff'.1 q1.2
  omega
theorem items_more {P : List PItem} (h : OkItems P 1048576) : OkItems P 16777216 := ⟨by have := h.1; omega, fun x hx => by have := h.2 x hx; exact ⟨by omega, this.2.1, this.2.2⟩⟩
def DrawnCat (g B : Nat) (A : Option Addr) (c : Nat) (bs : List Int) (w : World) (e : Ending) (w' : World) : Prop :=
  ∃ (P : List PItem) (A' : Option Addr) (c' : Nat) (L : List RItem), DrewP P 5 ∧ plI L = P ∧ e = .returned (.slice A' P.length c') ∧ OwnItems w' w.heap.size w'.heap.size A' P.length c' L ∧ Cur w' g B A c bs ∧ w.grownBy w' (some g)
set_option maxHeartbeats 6400000 in
theorem s_l35List (g B : Nat) (A : Option Addr) (c : Nat) (bs : List Int) (w : World) (hC : Cur w g B A c bs) :
    Calls Try.prog 70 #[.pointer (some ⟨g, 0, none⟩)] w (DrawnCat g B A c bs w) := by
  have hgw := hC.lt
  have hlB := hC.lo
  go_enter Try.func70, Try.ntmps70
  go_wp2_with fail
  have h0 := made_at (e := 58) (size := 4) w w.heap.size w.heap.size rfl (Nat.le_refl _)
  have C0 := hC.alloc (.cells #[] 58)
  have G0 : w.grownBy (w.alloc (.cells #[] 58)) (some g) := grown_then (World.grownBy.refl w _) bel
  have hs0 : (w.alloc (.cells #[] 58)).heap.size = w.heap.size + 1 := by simp
  have O0 : OwnItems (w.alloc (.cells #[] 58)) w.heap.size (w.alloc (.cells #[] 58)).heap.size (some ⟨w.heap.size, 0, none⟩) 0 0 [] := OwnItems.nil h0 (fun k hk => by simp [Value.ownBlock] at hk; omega)
  generalize w.alloc (.cells #[] 58) = w0 at *
  refine (s_l01Below 6 g B A c bs w0 C0 (by omega) (by omega)).mono ?_
  rintro e w1 ⟨x, rfl, hx0, hx1, C_, g1⟩
  have o_L := (O0.boxy (C0.boxy g1)).wide (Nat.le_refl _) g1.size
  have G_ := only_trans G0 g1
  obtain ⟨m, rfl⟩ : ∃ m : Nat, x = m := ⟨x.toNat, by omega⟩
  clear h0 hC C0 G0 O0 g1 hs0
  go_wp2
  go_loopw [3, 4] (fun o i wr => ∃ (m j N : Nat) (A' : Option Addr) (c' : Nat) (P : List PItem) (L : List RItem), j + m ≤ 5 ∧ i = .int .i64 (m : Int) ∧ o = .slice A' N c' ∧ Hid (P.length = N) ∧ Hid (DrewP P j) ∧ Hid (plI L = P) ∧ OwnItems wr w.heap.size wr.heap.size A' N c' L ∧ Cur wr g B A c bs ∧ w.grownBy wr (some g)) (fun _ i _ => (intOf i).toNat)
  case atStart => exact ⟨m, 0, 0, _, _, [], [], by omega, rfl, rfl, rfl, DrewP.nil, rfl, o_L, C_, G_⟩
  case round =>
    clear o_L C_ G_
    obtain ⟨m, j, N, A', c', P, L, hm, rfl, rfl, HN, HD, HP, o_L, C_, G_⟩ := hrel
    have hN5 : N ≤ 5 := by have := HD.out.len; have := HN.out; omega
    have s_wr := G_.size
    by_cases hm0 : 0 < m
    · skip
      have hm1 : (0 : Int) < (m : Int) := by omega
      go_wp2_with fail
      refine (s_l05Card g B A c bs wr C_).mono ?_
      rintro e w11 ⟨d, f, ss, Ax, cx, hbd, hss, rfl, o_X, C2_, g_⟩
      replace o_L := o_L.boxy (C_.boxy g_)
      replace G_ := only_trans G_ g_
      have s_w11 := g_.size
      clear C_ g_
      have C_ := C2_; clear C2_
      have hxz : ∀ x ∈ ss, x.size ≤ 16777216 := fun x hx => by have := (hss x hx).2.2; omega
      obtain ⟨nx, hnx⟩ : ∃ n, ss.length = n := ⟨_, rfl⟩
      have HX := Lib.hid hnx
      have HXZ := hide hxz
      have hnx6 := hbd.2.2.2.2
      rw [hnx] at hnx6 ⊢
      clear hxz hnx hss
      by_cases hN0 : N = 0
      · skip
        have hz0 : decide ((0 : Int) < (N : Int)) = false := decide_eq_false (by omega)
        have hz1 : ¬ (0 : Int) < (N : Int) := by omega
        have hz2 : ¬ 0 < N := by omega
        have hz3 : decide (0 < N) = false := decide_eq_false hz2
        clear hN0
        go_wp2
        obtain ⟨w12, e_⟩ : ∃ x, x = (w11.alloc (.cells #[.int .i64 (d : Int), .int .i64 (f : Int), .slice Ax nx cx] 26)) := ⟨_, rfl⟩
        have hX_ : Boxy w11 w12 := by rw [e_]; exact boxy
        have z_ : Below w.heap.size w11 w12 := by rw [e_]; exact bel
        have k_x : w12.heap[w11.heap.size]? = some (.cells #[.int .i64 (d : Int), .int .i64 (f : Int), .slice Ax nx cx] 26 (0, 0)) := by rw [e_]; exact (blk_new_at _ _ (by simp))
        replace o_L := o_L.boxy hX_
        replace o_X := o_X.boxy hX_
        replace C_ : Cur w12 g B A c bs := by rw [e_]; exact (C_.alloc _)
        replace G_ : w.grownBy w12 (some g) := grown_then G_ z_
        have s_w12 : w11.heap.size ≤ w12.heap.size := by rw [e_]; simp [World.setCell]; try omega
        obtain ⟨bx, eb_⟩ : ∃ x, x = w11.heap.size := ⟨_, rfl⟩
        rw [← eb_] at k_x
        have l_x : w.heap.size ≤ bx := by omega
        have eb_x := eb_; clear eb_
        rw [← e_]
        clear e_ hX_ z_ 
        try rw [← eb_x]
        clear eb_x
        clear hz0 hz1 hz2 hz3
        obtain ⟨x0x, x1x, x2x, xlx⟩ := blk3 k_x
        have kA : ∀ (nm : ByteArray) (W : World), nm ∈ drawNames → OwnItems W w.heap.size wr.heap.size A' N c' L → OwnS W wr.heap.size w11.heap.size Ax cx ss → Calls Try.prog 113 #[.slice A' N c', .agg #[.string nm, .int .i64 (d : Int), .int .i64 (f : Int), .slice Ax nx cx]] W fun e w' => ∃ (Q : List PItem) (M : Nat) (A2 : Option Addr) (c2 : Nat) (L2 : List RItem) (b2 : Bool), e = .returned (.tuple #[.slice A2 M c2, .bool b2]) ∧ Hid (Q.length = M) ∧ Hid (DrewP Q (j + 1)) ∧ Hid (plI L2 = Q) ∧ OwnItems w' W.heap.size w'.heap.size A2 M c2 L2 ∧ Below W.heap.size W w' := by
          intro nm W hnm h1 h2
          have hok := cat_items HD.out.ok
          have hcap := own_capI h1.row
          have hI := h1.rdOk (by rw [HP.out]; exact items_more hok)
          have hXX := h2.rd (by rw [HX.out]; omega) HXZ.out
          have q := s_AddItem nm (d : Int) (f : Int) Ax cx ss P W.heap.size A' N c' L W HP.out hI hXX (drawNames_size hnm) (Nat.le_refl _) (by omega) hcap.1 hcap.2.1 hcap.2.2
          rw [HX.out] at q
          refine q.mono ?_
          rintro e w' ⟨A2, c2, L2, rfl, hp, ho, hb⟩
          exact ⟨_, _, A2, c2, L2, _, rfl, rfl, HD.out.add _ hnm, hp, ho, hb⟩
        have HA := hide kA
        clear kA
        have C0 : Cur w12.drew g B A c bs := C_.drew
        have L0 : OwnItems w12.drew w.heap.size wr.heap.size A' N c' L := o_L.drew
        have X0 : OwnS w12.drew wr.heap.size w11.heap.size Ax cx ss := o_X.drew
        have kx0 : w12.drew.heap[bx]? = some (.cells #[.int .i64 (d : Int), .int .i64 (f : Int), .slice Ax nx cx] 26 (0, 0)) := k_x
        have G0 : w.grownBy w12.drew (some g) := only_trans G_ ⟨rfl, rfl, rfl, Nat.le_refl _, fun _ _ _ => rfl⟩
        have hsd : w12.drew.heap.size = w12.heap.size := rfl
        have hgD : g < w12.heap.size := C_.lt
        have hbg : bx ≠ g := by omega
        have hgws := G_.size
        clear C_ o_L o_X G_
        go_wp2
        go_region_with (first
          | (go_at_call 114; refine (s_l35Name g B A c bs _ C0).mono ?_; rintro e w6 ⟨nm, hnm, rfl, C6, g6⟩; (have k6 := C0.blk_keep kx0 hbg g6); obtain ⟨y0, y1, y2, yl⟩ := blk3 k6)
          | (go_at_call 113; refine (HA.out nm w6 hnm (L0.boxy (C0.boxy g6)) (X0.boxy (C0.boxy g6))).mono ?_; rintro e w9 ⟨Q, M, A2, c2, L2, b2, rfl, HM, HQ, HL2, o9, z9⟩))
        all_goals (
          have hs6 := g6.size
          have C9 := C6.below z9
          have G9 : w.grownBy w9 (some g) := grown_then (only_trans G0 g6) (z9.mono (by omega))
          go_wp2
          go_roundw
          case rel => exact ⟨m - 1, j + 1, M, A2, c2, Q, L2, by omega, by congr 1; omega, rfl, HM, HQ, HL2, o9.wide (by omega) (Nat.le_refl _), C9, G9⟩
          case measure => simp [intOf]; omega)
      · skip
        have hz0 : decide ((0 : Int) < (N : Int)) = true := decide_eq_true (by omega)
        have hz1 : (0 : Int) < (N : Int) := by omega
        have hz2 : 0 < N := by omega
        have hz3 : decide (0 < N) = true := decide_eq_true hz2
        go_wp2_with fail
        obtain ⟨w12, e_⟩ : ∃ x, x = (w11.alloc (.cells #[.int .i64 (d : Int), .int .i64 (f : Int), .slice Ax nx cx] 26)) := ⟨_, rfl⟩
        have hX_ : Boxy w11 w12 := by rw [e_]; exact boxy
        have z_ : Below w.heap.size w11 w12 := by rw [e_]; exact bel
        have k_x : w12.heap[w11.heap.size]? = some (.cells #[.int .i64 (d : Int), .int .i64 (f : Int), .slice Ax nx cx] 26 (0, 0)) := by rw [e_]; exact (blk_new_at _ _ (by simp))
        replace o_L := o_L.boxy hX_
        replace o_X := o_X.boxy hX_
        replace C_ : Cur w12 g B A c bs := by rw [e_]; exact (C_.alloc _)
        replace G_ : w.grownBy w12 (some g) := grown_then G_ z_
        have s_w12 : w11.heap.size ≤ w12.heap.size := by rw [e_]; simp [World.setCell]; try omega
        obtain ⟨bx, eb_⟩ : ∃ x, x = w11.heap.size := ⟨_, rfl⟩
        rw [← eb_] at k_x
        have l_x : w.heap.size ≤ bx := by omega
        have eb_x := eb_; clear eb_
        rw [← e_]
        clear e_ hX_ z_ 
        try rw [← eb_x]
        clear eb_x
        refine (s_l01Once 3 g B A c bs w12 C_ (by omega) (by omega)).mono ?_
        rintro e w13 ⟨b1, rfl, C2_, g_⟩
        replace k_x := C_.blk_keep k_x (by omega) g_
        replace o_L := o_L.boxy (C_.boxy g_)
        replace o_X := o_X.boxy (C_.boxy g_)
        replace G_ := only_trans G_ g_
        have s_w13 := g_.size
        clear C_ g_
        have C_ := C2_; clear C2_
        cases b1
        · skip
          clear hz0 hz1 hz2 hz3
          obtain ⟨x0x, x1x, x2x, xlx⟩ := blk3 k_x
          have kA : ∀ (nm : ByteArray) (W : World), nm ∈ drawNames → OwnItems W w.heap.size wr.heap.size A' N c' L → OwnS W wr.heap.size w11.heap.size Ax cx ss → Calls Try.prog 113 #[.slice A' N c', .agg #[.string nm, .int .i64 (d : Int), .int .i64 (f : Int), .slice Ax nx cx]] W fun e w' => ∃ (Q : List PItem) (M : Nat) (A2 : Option Addr) (c2 : Nat) (L2 : List RItem) (b2 : Bool), e = .returned (.tuple #[.slice A2 M c2, .bool b2]) ∧ Hid (Q.length = M) ∧ Hid (DrewP Q (j + 1)) ∧ Hid (plI L2 = Q) ∧ OwnItems w' W.heap.size w'.heap.size A2 M c2 L2 ∧ Below W.heap.size W w' := by
            intro nm W hnm h1 h2
            have hok := cat_items HD.out.ok
            have hcap := own_capI h1.row
            have hI := h1.rdOk (by rw [HP.out]; exact items_more hok)
            have hXX := h2.rd (by rw [HX.out]; omega) HXZ.out
            have q := s_AddItem nm (d : Int) (f : Int) Ax cx ss P W.heap.size A' N c' L W HP.out hI hXX (drawNames_size hnm) (Nat.le_refl _) (by omega) hcap.1 hcap.2.1 hcap.2.2
            rw [HX.out] at q
            refine q.mono ?_
            rintro e w' ⟨A2, c2, L2, rfl, hp, ho, hb⟩
            exact ⟨_, _, A2, c2, L2, _, rfl, rfl, HD.out.add _ hnm, hp, ho, hb⟩
          have HA := hide kA
          clear kA
          have C0 : Cur w13.drew g B A c bs := C_.drew
          have L0 : OwnItems w13.drew w.heap.size wr.heap.size A' N c' L := o_L.drew
          have X0 : OwnS w13.drew wr.heap.size w11.heap.size Ax cx ss := o_X.drew
          have kx0 : w13.drew.heap[bx]? = some (.cells #[.int .i64 (d : Int), .int .i64 (f : Int), .slice Ax nx cx] 26 (0, 0)) := k_x
          have G0 : w.grownBy w13.drew (some g) := only_trans G_ ⟨rfl, rfl, rfl, Nat.le_refl _, fun _ _ _ => rfl⟩
          have hsd : w13.drew.heap.size = w13.heap.size := rfl
          have hgD : g < w13.heap.size := C_.lt
          have hbg : bx ≠ g := by omega
          have hgws := G_.size
          clear C_ o_L o_X G_
          go_wp2
          go_region_with (first
            | (go_at_call 114; refine (s_l35Name g B A c bs _ C0).mono ?_; rintro e w6 ⟨nm, hnm, rfl, C6, g6⟩; (have k6 := C0.blk_keep kx0 hbg g6); obtain ⟨y0, y1, y2, yl⟩ := blk3 k6)
            | (go_at_call 113; refine (HA.out nm w6 hnm (L0.boxy (C0.boxy g6)) (X0.boxy (C0.boxy g6))).mono ?_; rintro e w9 ⟨Q, M, A2, c2, L2, b2, rfl, HM, HQ, HL2, o9, z9⟩))
          all_goals (
            have hs6 := g6.size
            have C9 := C6.below z9
            have G9 : w.grownBy w9 (some g) := grown_then (only_trans G0 g6) (z9.mono (by omega))
            go_wp2
            go_roundw
            case rel => exact ⟨m - 1, j + 1, M, A2, c2, Q, L2, by omega, by congr 1; omega, rfl, HM, HQ, HL2, o9.wide (by omega) (Nat.le_refl _), C9, G9⟩
            case measure => simp [intOf]; omega)
        · skip
          have hok := cat_items HD.out.ok
          have hI := o_L.rdOk (by rw [HP.out]; exact items_more hok)
          obtain ⟨hk0, ad, rfl, hab, e0, e1, e2, e3, hSy, hny⟩ := hI.at_ (k := 0) hz2
          obtain ⟨⟨⟨ny, dy, fy, sy⟩, Ay, cy⟩, hY⟩ : ∃ Y, L[0] = Y := ⟨_, rfl⟩
          rw [hY] at e0 e1 e2 e3 hSy hny
          simp only [Nat.zero_mul] at e0 e1 e2 e3 hSy hny
          have had : ad.add 0 = ad := by unfold Addr.add; split <;> simp_all
          rw [had] at e0 e1 e2 e3
          have hcy : cardOk dy fy sy = true := by
            have h1 := plI_at hk0
            rw [HP.out, hY] at h1
            exact ((catOk_iff.1 HD.out.ok).2.1 _ (List.mem_of_getElem? h1)).2
          have hmr : mirrorRes dy fy sy = (dy, fy, sy.reverse) := by unfold mirrorRes; rw [hcy]; rfl
          have hyl : sy.length ≤ 10 := (card_bounds hcy).2.1.2
          have hyz : ∀ x ∈ sy.reverse, x.size ≤ 16777216 := fun x hx => by have := (card_bounds hcy).2.2 x (List.mem_reverse.1 hx); omega
          obtain ⟨ly, hly⟩ : ∃ x, sy.length = x := ⟨_, rfl⟩
          have kM := s_MirrorCard dy fy w13.heap.size Ay sy.length cy sy w13 hSy (Nat.le_refl _)
          rw [hmr] at kM
          rw [hly] at e3 kM hyl
          have HLY : Hid (sy.reverse.length = ly) := by unfold Hid; rw [List.length_reverse]; exact hly
          have HYZ := hide hyz
          have HKM := hide kM
          clear hok hI hk0 hY hcy hmr hyz kM hSy hly
          obtain ⟨x0x, x1x, x2x, xlx⟩ := blk3 k_x
          go_wp2_with fail
          clear x0x x1x x2x xlx
          refine (HKM.out).mono ?_
          rintro e w14 ⟨Am, cm, rfl, o_M, z_⟩
          replace k_x := blk_next k_x z_
          replace o_L := o_L.below z_
          replace o_X := o_X.below z_
          replace C_ := C_.below z_
          replace G_ := grown_then G_ (z_.mono G_.size)
          have s_w14 := z_.size
          clear z_
          have o_M := OwnS.of (lo := w13.heap.size) (hi := w14.heap.size) o_M (Nat.le_refl _)
          rw [HLY.out]
          clear e0 e1 e2 e3 hab hz0 hz1 hz2 hz3 had o_X
          obtain ⟨x0x, x1x, x2x, xlx⟩ := blk3 k_x
          have f0x := (blk_cells k_x 0).2
          have f1x := (blk_cells k_x 1).2
          have f2x := (blk_cells k_x 2).2
          go_wp2
          clear x0x x1x x2x xlx f0x f1x f2x
          have q_x := blk_lt k_x
          have bx_x := boxAt_of k_x
          obtain ⟨w15, e_⟩ : ∃ x, x = (((w14.setCell ⟨bx, 0, none⟩ (.int .i64 dy)).setCell ⟨bx, 1, none⟩ (.int .i64 fy)).setCell ⟨bx, 2, none⟩ (.slice Am ly cm)) := ⟨_, rfl⟩
          have hX_ : Boxy w14 w15 := by rw [e_]; exact boxy
          have z_ : Below w.heap.size w14 w15 := by rw [e_]; exact bel
          have k2_x : w15.heap[bx]? = some (.cells #[.int .i64 dy, .int .i64 fy, .slice Am ly cm] 26 (0, 0)) := by rw [e_]; have hq9 := (blk_set (blk_set (blk_set k_x 0 (.int .i64 dy)) 1 (.int .i64 fy)) 2 (.slice Am ly cm)); simpa using hq9
          clear k_x; have k_x := k2_x; clear k2_x
          replace o_L := o_L.boxy hX_
          replace o_M := o_M.boxy hX_
          replace C_ : Cur w15 g B A c bs := by rw [e_]; exact (((C_.put_other (by simp; omega) (by simp; omega) _).put_other (by simp; omega) (by simp; omega) _).put_other (by simp; omega) (by simp; omega) _)
          replace G_ : w.grownBy w15 (some g) := grown_then G_ z_
          have s_w15 : w14.heap.size ≤ w15.heap.size := by rw [e_]; simp [World.setCell]; try omega
          rw [← e_]
          clear e_ hX_ z_ q_x bx_x
          have o_X := o_M; clear o_M
          obtain ⟨x0x, x1x, x2x, xlx⟩ := blk3 k_x
          have kA : ∀ (nm : ByteArray) (W : World), nm ∈ drawNames → OwnItems W w.heap.size wr.heap.size (some ad) N c' L → OwnS W w13.heap.size w14.heap.size Am cm sy.reverse → Calls Try.prog 113 #[.slice (some ad) N c', .agg #[.string nm, .int .i64 dy, .int .i64 fy, .slice Am ly cm]] W fun e w' => ∃ (Q : List PItem) (M : Nat) (A2 : Option Addr) (c2 : Nat) (L2 : List RItem) (b2 : Bool), e = .returned (.tuple #[.slice A2 M c2, .bool b2]) ∧ Hid (Q.length = M) ∧ Hid (DrewP Q (j + 1)) ∧ Hid (plI L2 = Q) ∧ OwnItems w' W.heap.size w'.heap.size A2 M c2 L2 ∧ Below W.heap.size W w' := by
            intro nm W hnm h1 h2
            have hok := cat_items HD.out.ok
            have hcap := own_capI h1.row
            have hI := h1.rdOk (by rw [HP.out]; exact items_more hok)
            have hXX := h2.rd (by rw [HLY.out]; omega) HYZ.out
            have q := s_AddItem nm dy fy Am cm sy.reverse P W.heap.size (some ad) N c' L W HP.out hI hXX (drawNames_size hnm) (Nat.le_refl _) (by omega) hcap.1 hcap.2.1 hcap.2.2
            rw [HLY.out] at q
            refine q.mono ?_
            rintro e w' ⟨A2, c2, L2, rfl, hp, ho, hb⟩
            exact ⟨_, _, A2, c2, L2, _, rfl, rfl, HD.out.add _ hnm, hp, ho, hb⟩
          have HA := hide kA
          clear kA
          have C0 : Cur w15.drew g B A c bs := C_.drew
          have L0 : OwnItems w15.drew w.heap.size wr.heap.size (some ad) N c' L := o_L.drew
          have X0 : OwnS w15.drew w13.heap.size w14.heap.size Am cm sy.reverse := o_X.drew
          have kx0 : w15.drew.heap[bx]? = some (.cells #[.int .i64 dy, .int .i64 fy, .slice Am ly cm] 26 (0, 0)) := k_x
          have G0 : w.grownBy w15.drew (some g) := only_trans G_ ⟨rfl, rfl, rfl, Nat.le_refl _, fun _ _ _ => rfl⟩
          have hsd : w15.drew.heap.size = w15.heap.size := rfl
          have hgD : g < w15.heap.size := C_.lt
          have hbg : bx ≠ g := by omega
          have hgws := G_.size
          clear C_ o_L o_X G_
          go_wp2
          go_region_with (first
            | (go_at_call 114; refine (s_l35Name g B A c bs _ C0).mono ?_; rintro e w6 ⟨nm, hnm, rfl, C6, g6⟩; (have k6 := C0.blk_keep kx0 hbg g6); obtain ⟨y0, y1, y2, yl⟩ := blk3 k6)
            | (go_at_call 113; refine (HA.out nm w6 hnm (L0.boxy (C0.boxy g6)) (X0.boxy (C0.boxy g6))).mono ?_; rintro e w9 ⟨Q, M, A2, c2, L2, b2, rfl, HM, HQ, HL2, o9, z9⟩))
          all_goals (
            have hs6 := g6.size
            have C9 := C6.below z9
            have G9 : w.grownBy w9 (some g) := grown_then (only_trans G0 g6) (z9.mono (by omega))
            go_wp2
            go_roundw
            case rel => exact ⟨m - 1, j + 1, M, A2, c2, Q, L2, by omega, by congr 1; omega, rfl, HM, HQ, HL2, o9.wide (by omega) (Nat.le_refl _), C9, G9⟩
            case measure => simp [intOf]; omega)
    · have hm1 : m = 0 := by omega
      subst hm1
      have hPl := HN.out
      have HO := hide o_L
      clear o_L
      go_wp2
      go_ret
      subst hPl
      exact ⟨P, A', c', L, ⟨HD.out.ok, by have := HD.out.len; omega, HD.out.nm⟩, HP.out, rfl, HO.out, C_, G_⟩
set_option maxHeartbeats 1600000 in
theorem s_DrawCatalog (B : Nat) (A : Option Addr) (c : Nat) (bs : List Int) (w : World) (hK : Code w B A bs) (hB : B ≤ w.heap.size) :
    Calls Try.prog 29 #[.slice A bs.length c] w fun e w' => ∃ (P : List PItem) (A' : Option Addr) (c' : Nat) (L : List RItem), DrewP P 5 ∧ plI L = P ∧ e = .returned (.slice A' P.length c') ∧ OwnItems w' w.heap.size w'.heap.size A' P.length c' L ∧ Below w.heap.size w w' := by
  go_enter Try.func29, Try.ntmps29
  go_wp2_with fail
  refine (s_l01New B A c bs w hK hB).mono ?_
  rintro e w1 ⟨rfl, C1, hb1⟩
  have hs1 := hb1.size
  go_wp2_with fail
  refine (s_l35List w.heap.size B A c bs w1 C1).mono ?_
  rintro e w2 ⟨P, A', c', L, hD, hp, rfl, o2, C2, g2⟩
  go_wp2
  go_ret
  exact ⟨P, A', c', L, hD, hp, rfl, o2.wide hs1 (Nat.le_refl _), hb1.trans (grown_below g2 (fun k hk => by injection hk with hk; omega) hs1)⟩
end Go.Proofs.Ytccjedongkokoaa
namespace Go.Proofs.Ytccjedongkokoaa
open Go.ChangeShapes Go.WideShapes Go.ChangeAt Go.RowKit
set_option linter.unusedVariables false
set_option linter.unusedSimpArgs false
set_option maxRecDepth 10000
def preOf (pre : ByteArray) (x : PItem) : Bool := Lib.hasPrefix x.nm.data.toList pre.data.toList
set_option maxHeartbeats 3200000 in
theorem i_NamesWith (pre : ByteArray) (P : List PItem) (B : Nat) (A : Option Addr) (n c : Nat) (L : List RItem) (w : World) (hp : plI L = P) (hS : Items w B A n L) (hB : B ≤ w.heap.size) (hck : catOk P = true) :
    Calls Try.prog 35 #[.slice A n c, .string pre] w fun e w' => ∃ A2 N c2, e = .returned (.slice A2 N c2) ∧ N = (P.filter (preOf pre)).length ∧ Below w.heap.size w w' := by
  obtain ⟨i0, hi0, hz0, hz1, hz2⟩ := info_parts info_str
  have hl : P.length = n := by rw [← hp, plI_len, hS.len]
  have hco := fun (W : World) (hW : Below w.heap.size w W) => i_CatalogOk P B A n c L W hp (hS.below (hW.mono hB)) (Nat.le_trans hB hW.size)
  simp only [hck] at hco
  have HCO := hide hco
  have hn20 : n ≤ 20 := by rw [← hl]; exact (catOk_iff.1 hck).1
  have HL := Lib.hid hl
  have HP := Lib.hid hp
  clear hco hck hl hp
  go_enter Try.func35, Try.ntmps35
  go_wp2_with fail
  refine (HCO.out w (Below.refl _ _)).mono ?_
  rintro e w1 ⟨rfl, hb1⟩
  go_wp2
  have h0 := made_at (e := 9) (size := 1) w1 w.heap.size w1.heap.size rfl hb1.size
  have hbw : Below w.heap.size w (w1.alloc (.cells #[] 9)) := hb1.alloc hb1.size _
  generalize w1.alloc (.cells #[] 9) = w2 at *
  go_loopw [5, 14] (fun o i wr => ∃ (j N : Nat) (A' : Option Addr) (c' : Nat) (xs : List Value), j ≤ n ∧ N ≤ j ∧ i = .int .i64 (j : Int) ∧ o = .slice A' N c' ∧ Hid (((P.take j).filter (preOf pre)).length = N) ∧ wr.ownsRow w.heap.size 9 1 (.slice A' N c') N xs ∧ Below w.heap.size w wr) (fun _ i _ => n - (intOf i).toNat)
  case atStart => exact ⟨0, 0, _, _, [], Nat.zero_le _, Nat.le_refl _, rfl, rfl, rfl, h0, hbw⟩
  case round =>
    clear h0 hbw
    obtain ⟨j, N, A', c', xs, hj, hNj, rfl, rfl, HN, hown, hb⟩ := hrel
    have hzr := hb.size
    by_cases hlt : j < n
    · obtain ⟨hk1, ad, rfl, hab, e0, e1, e2, e3, hSx, hnx⟩ := (hS.below (hb.mono hB)).at_ (k := j) hlt
      have hq0 : (ad.add (j * 4)).block < wr.heap.size := by rw [block_of_add]; omega
      have hP1 := plI_at hk1
      rw [HP.out] at hP1
      have hjP : j < P.length := by rw [HL.out]; exact hlt
      have hPj : P[j] = L[j].x := by
        rw [List.getElem?_eq_getElem hjP] at hP1
        injection hP1
      obtain ⟨bq, hbq⟩ : ∃ b, preOf pre L[j].x = b := ⟨_, rfl⟩
      have hT : ((P.take (j + 1)).filter (preOf pre)).length = ((P.take j).filter (preOf pre)).length + if bq = true then 1 else 0 := by
        rw [List.take_succ_eq_append_getElem hjP, List.filter_append, List.length_append, hPj, List.filter_cons, hbq]
        cases bq <;> simp
      have kH := fun (W : World) => Try.strings_HasPrefix L[j].x.nm pre W
      have hbq' : Lib.hasPrefix L[j].x.nm.data.toList pre.data.toList = bq := hbq
      rw [hbq'] at kH
      have HT := Lib.hid hT
      have HH := hide kH
      obtain ⟨X, hX⟩ : ∃ X, L[j] = X := ⟨_, rfl⟩
      rw [hX] at e0 e1 e2 e3 HH
      clear hT kH hbq hbq' hPj hP1 hSx hX
      have ho1 := hown.alloc (.cells #[.string X.x.nm, .int .i64 X.x.d, .int .i64 X.x.f, .slice X.A X.x.ss.length X.c] 58)
      have hb1 := hb.alloc hzr (.cells #[.string X.x.nm, .int .i64 X.x.d, .int .i64 X.x.f, .slice X.A X.x.ss.length X.c] 58)
      have kx := blk_new wr (.cells #[.string X.x.nm, .int .i64 X.x.d, .int .i64 X.x.f, .slice X.A X.x.ss.length X.c] 58)
      go_wp2_with fail
      obtain ⟨bx, hbx⟩ : ∃ x, x = wr.heap.size := ⟨_, rfl⟩
      rw [← hbx] at kx
      try rw [← hbx]
      generalize wr.alloc (.cells #[.string X.x.nm, .int .i64 X.x.d, .int .i64 X.x.f, .slice X.A X.x.ss.length X.c] 58) = wx at *
      clear hown hb hbx e0 e1 e2 e3 hq0
      have hzx := hb1.size
      obtain ⟨x0, x1, x2, x3, xl⟩ := blk4 kx
      cases bq
      · go_wp2_with (go_at_call 75; refine (HH.out _).mono ?_; rintro e w' ⟨rfl, rfl⟩)
        go_roundw
        case rel => exact ⟨j + 1, N, A', c', xs, by omega, by omega, by go_num, rfl, (by unfold Hid; rw [HT.out, HN.out]; rfl), ho1, hb1⟩
        case measure => simp [intOf]; omega
      · have hone : ∀ u ∈ [Value.string X.x.nm], u.oneCell' = true := by intro u hu; simp at hu; subst hu; rfl
        have HONE := hide hone
        clear hone
        go_wp2_with (first | (go_at_call 75; refine (HH.out _).mono ?_; rintro e w' ⟨rfl, rfl⟩) | (at_builtin; refine wpList_append_N _ rfl (.tmp 22) (.tmp 25) _ rfl w.heap.size 9 i0 _ 1 16 Try.underlying24 hi0 hz0 hz1 hz2 rfl (by omega) (.slice A' N c') N xs rfl (ho1.alloc _) (_ + 1) (some ⟨_, 0, none⟩) 1 1 [Value.string X.x.nm] rfl (reads_one _ _) HONE.out ?_ ?_ ?_ (N + 1) (xs ++ [Value.string X.x.nm]) rfl rfl ?_; (unfold maxLen; omega); omega; (simp; omega); intro A2 c2 w3 ho3 hb3))
        go_roundw
        case rel => exact ⟨j + 1, N + 1, A2, c2, _, by omega, by omega, by go_num, rfl, (by unfold Hid; rw [HT.out, HN.out]; rfl), ho3, (hb1.alloc hzx _).trans (hb3.mono (by first | exact Nat.le_refl _ | omega | (simp; done) | (simp; omega)))⟩
        case measure => simp [intOf]; omega
    · have hjn : j = n := by omega
      subst hjn
      have ht : P.take j = P := List.take_of_length_le (by rw [HL.out]; exact Nat.le_refl _)
      have HF : Hid (N = (P.filter (preOf pre)).length) := by unfold Hid; rw [← HN.out, ht]
      clear ht hown
      go_wp2
      go_ret
      exact ⟨A', N, c', rfl, HF.out, hb⟩
end Go.Proofs.Ytccjedongkokoaa
