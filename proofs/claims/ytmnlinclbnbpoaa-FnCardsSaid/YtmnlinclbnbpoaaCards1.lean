/- HighStrip of the reference, FlatStrip and PlainCard of the program, DrawCard. -/
import Derived.Test.YtmnlinclbnbpoaaDraw3
import Derived.Test.YtmnlinclbnbpoaaMem3
import Derived.Test.YtmnlinclbnbpoaaLawKit2
import Derived.Test.YtmnlinclbnbpoaaUCard
import Derived.Deep.RegionLaw
import Derived.Shelf.Strings.Repeat
namespace Go.Proofs.Ytmnlinclbnbpoaa
open Go.ChangeShapes Go.WideShapes Go.ChangeAt Go.RowKit
set_option linter.unusedVariables false
set_option maxRecDepth 10000

theorem drew_high (d f : Nat) : Drew d f (⟨(List.replicate f 102).toArray⟩ ++ ⟨(List.replicate d 100).toArray⟩) := by
  have h1 : Drew d 0 ⟨(List.replicate d 100).toArray⟩ := ⟨by show cnt 100 (List.replicate d 100) = d; exact drew_rep _ _, by show cnt 102 (List.replicate d 100) = 0; unfold cnt; rw [List.count_replicate]; simp, by show (List.replicate d (100 : UInt8)).toArray.size = d; simp⟩
  have h2 : Drew 0 f ⟨(List.replicate f 102).toArray⟩ := ⟨by show cnt 100 (List.replicate f 102) = 0; unfold cnt; rw [List.count_replicate]; simp, by show cnt 102 (List.replicate f 102) = f; exact drew_rep _ _, by show (List.replicate f (102 : UInt8)).toArray.size = 0 + f; simp⟩
  have h := h2.app h1
  simpa using h
set_option maxHeartbeats 800000 in
theorem s_HighStrip (d f : Nat) (w : World) (h1 : 1 ≤ d) (h2 : d ≤ 8) (h3 : 1 ≤ f) (h4 : f ≤ 8) :
    Calls Try.prog 10 #[.int .i64 d, .int .i64 f] w fun e w' => ∃ s, e = .returned (.string s) ∧ Drew d f s ∧ w = w' := by
  have hsz : ¬ 9223372036854775807 < (⟨(List.replicate f 102).toArray⟩ : ByteArray).size + (⟨(List.replicate d 100).toArray⟩ : ByteArray).size := by
    show ¬ _ < (List.replicate f (102 : UInt8)).toArray.size + (List.replicate d (100 : UInt8)).toArray.size; simp; omega
  have hfl := drew_high d f
  simp only [List.toArray_replicate] at hfl
  have hs1 : isStepsB (d : Int) = true := by simp [isStepsB, inB]; omega
  have hs2 : isStepsB (f : Int) = true := by simp [isStepsB, inB]; omega
  have HFL := hide hfl
  clear hfl
  go_enter Try.func10, Try.ntmps10
  go_wp2_with (first | (go_at_call 51; refine (s_l02Frame _ _ _).mono ?_; rintro e w' ⟨rfl, rfl⟩) | (go_at_call_of 52 (Value.string ⟨#[102]⟩); refine (s_l02Many 102 f _ h4).mono ?_; rintro e w' ⟨rfl, rfl⟩) | (go_at_call_of 52 (Value.string ⟨#[100]⟩); refine (s_l02Many 100 d _ h2).mono ?_; rintro e w' ⟨rfl, rfl⟩))
  go_ret
  exact ⟨_, rfl, unhide HFL, rfl⟩
/-- the strip of a frame that lies lowest -/
def flatT (d f : Nat) : ByteArray := ⟨(List.replicate d 100).toArray⟩ ++ ⟨(List.replicate f 102).toArray⟩
theorem repeat_one (x : UInt8) (n : Nat) : Lib.repeatL [x] n = List.replicate n x := by
  induction n with
  | zero => rfl
  | succ n ih => show [x] ++ Lib.repeatL [x] n = _; rw [ih]; rfl
set_option maxHeartbeats 800000 in
theorem i_FlatStrip (d f : Nat) (w : World) (h1 : 1 ≤ d) (h2 : d ≤ 8) (h3 : 1 ≤ f) (h4 : f ≤ 8) :
    Calls Try.prog 61 #[.int .i64 d, .int .i64 f] w fun e w' => e = .returned (.string (flatT d f)) ∧ Below w.heap.size w w' := by
  have hs1 : isStepsB (d : Int) = true := by simp [isStepsB, inB]; omega
  have hs2 : isStepsB (f : Int) = true := by simp [isStepsB, inB]; omega
  have r1 : ∀ W : World, Calls Try.prog 97 #[.string ⟨#[100]⟩, .int .i64 d] W fun e w' => e = .returned (.string ⟨(List.replicate d 100).toArray⟩) ∧ Below W.heap.size W w' := fun W => by
    have h := Try.strings_Repeat ⟨#[100]⟩ d W (by omega) (by show 1 * d ≤ _; omega)
    rw [show (⟨#[100]⟩ : ByteArray).data.toList = [100] from rfl, repeat_one] at h
    exact h
  have r2 : ∀ W : World, Calls Try.prog 97 #[.string ⟨#[102]⟩, .int .i64 f] W fun e w' => e = .returned (.string ⟨(List.replicate f 102).toArray⟩) ∧ Below W.heap.size W w' := fun W => by
    have h := Try.strings_Repeat ⟨#[102]⟩ f W (by omega) (by show 1 * f ≤ _; omega)
    rw [show (⟨#[102]⟩ : ByteArray).data.toList = [102] from rfl, repeat_one] at h
    exact h
  obtain ⟨a, ha⟩ : ∃ a : ByteArray, ⟨(List.replicate d 100).toArray⟩ = a := ⟨_, rfl⟩
  obtain ⟨b, hb⟩ : ∃ b : ByteArray, ⟨(List.replicate f 102).toArray⟩ = b := ⟨_, rfl⟩
  have hov : ¬ 9223372036854775807 < a.size + b.size := by
    rw [← ha, ← hb]
    show ¬ _ < (List.replicate d (100 : UInt8)).toArray.size + (List.replicate f (102 : UInt8)).toArray.size; simp; omega
  have hab : Hid (flatT d f = a ++ b) := by unfold Hid flatT; rw [ha, hb]
  rw [ha] at r1
  rw [hb] at r2
  have R1 := hide r1
  have R2 := hide r2
  clear ha hb r1 r2
  go_enter Try.func61, Try.ntmps61
  go_wp2_with (first | (go_at_call 64; refine (i_isSteps _ _).mono ?_; rintro e w' ⟨rfl, rfl⟩) | (go_at_call_of 97 (Value.string ⟨#[100]⟩); refine (R1.out _).mono ?_; rintro e w1 ⟨rfl, hb1⟩) | (go_at_call_of 97 (Value.string ⟨#[102]⟩); refine (R2.out _).mono ?_; rintro e w2 ⟨rfl, hb2⟩))
  go_ret
  exact ⟨ret_str hab.out.symm, hb1.trans (hb2.mono hb1.size)⟩
set_option maxHeartbeats 3200000 in
theorem i_PlainCard (d f n : Nat) (w : World) (h1 : 1 ≤ d) (h2 : d ≤ 8) (h3 : 1 ≤ f) (h4 : f ≤ 8) (hn1 : 1 ≤ n) (hn2 : n ≤ 10) :
    Calls Try.prog 15 #[.int .i64 d, .int .i64 f, .int .i64 n] w (FreshCardB w.heap.size d f (List.replicate n (flatT d f)) true w) := by
  obtain ⟨i0, hi0, hi1, hi2, hi3⟩ := info_parts info_str
  have hin : inB (n : Int) 1 10 = true := by simp [inB]; omega
  have hcok : cardOk d f (List.replicate n (flatT d f)) = true := by
    have hs : stripOf d f (flatT d f) = true := by
      have hD : Drew d f (flatT d f) := Drew.flat d f
      have hst := drew_strip hD h1 h2 h3 h4
      obtain ⟨k1, k2, k3⟩ := hD
      unfold stripOf downOf forwardOf
      rw [hst, k1, k2]
      simp
    have hall : (List.replicate n (flatT d f)).all (stripOf d f) = true := List.all_eq_true.2 fun x hx => by rw [List.eq_of_mem_replicate hx]; exact hs
    unfold cardOk
    rw [hall]
    simp [isStepsB, inB]
    omega
  go_enter Try.func15, Try.ntmps15
  go_wp2_with (go_at_call 53; refine (i_within _ _ _ _).mono ?_; rw [hin]; rintro e w' ⟨rfl, rfl⟩)
  have HF := hide (fun (W : World) => i_FlatStrip d f W h1 h2 h3 h4)
  have HC := Lib.hid hcok
  have hfsz : (flatT d f).size ≤ 16 := by have := (Drew.flat d f).2.2; show (⟨(List.replicate d 100).toArray⟩ ++ ⟨(List.replicate f 102).toArray⟩ : ByteArray).size ≤ 16; omega
  generalize flatT d f = T at *
  clear hcok
  have hkr0 := blk_alloc (blk_new w (.cells #[.int .i64 0, .int .i64 0, .slice none 0 0] 26)) (.cells #[.int .i64 d, .int .i64 f, .slice none 0 0] 26)
  have hko0 := blk_new_at (w.alloc (.cells #[.int .i64 0, .int .i64 0, .slice none 0 0] 26)) (.cells #[.int .i64 d, .int .i64 f, .slice none 0 0] 26) (k := w.heap.size + 1) (by simp)
  have hb0 : Below w.heap.size w ((w.alloc (.cells #[.int .i64 0, .int .i64 0, .slice none 0 0] 26)).alloc (.cells #[.int .i64 d, .int .i64 f, .slice none 0 0] 26)) := bel
  have hO0 : w.heap.size + 1 < ((w.alloc (.cells #[.int .i64 0, .int .i64 0, .slice none 0 0] 26)).alloc (.cells #[.int .i64 d, .int .i64 f, .slice none 0 0] 26)).heap.size := by simp
  generalize ((w.alloc (.cells #[.int .i64 0, .int .i64 0, .slice none 0 0] 26)).alloc (.cells #[.int .i64 d, .int .i64 f, .slice none 0 0] 26)) = w2 at *
  obtain ⟨O, hO⟩ : ∃ O, w.heap.size + 1 = O := ⟨_, rfl⟩
  rw [hO] at hko0 hO0 ⊢
  have hwO : w.heap.size < O := by omega
  clear hO
  have hone : ∀ u ∈ [Value.string T], u.oneCell' = true := by intro u hu; simp at hu; subst hu; rfl
  go_loopw [17] (fun i wr => ∃ (j : Nat) (A' : Option Addr) (c' : Nat), j ≤ n ∧ i = .int .i64 j ∧ wr.heap[O]? = some (.cells #[.int .i64 d, .int .i64 f, .slice A' j c'] 26 (0, 0)) ∧ wr.heap[w.heap.size]? = some (.cells #[.int .i64 0, .int .i64 0, .slice none 0 0] 26 (0, 0)) ∧ wr.ownsRow (O + 1) 9 1 (.slice A' j c') j ((List.replicate j T).map Value.string) ∧ Below w.heap.size w wr ∧ O < wr.heap.size) (fun i _ => n - (intOf i).toNat)
  case atStart => exact ⟨0, none, 0, Nat.zero_le _, rfl, hko0, hkr0, World.ownsRow_nil _ _ _ _, hb0, hO0⟩
  case round =>
    obtain ⟨j, A', c', hj, rfl, hko, hkr, hown, hb, hOr⟩ := hrel
    have hzr := hb.size
    obtain ⟨hx0, hx1, hx2, hxl⟩ := blk3 hko
    have hf2 := (blk_cells hko 2).2
    by_cases hlt : j < n
    · have HST : Hid ((List.replicate j T).map Value.string ++ [Value.string T] = (List.replicate (j + 1) T).map Value.string) := by unfold Hid; rw [List.replicate_succ', List.map_append]; rfl
      go_wp2
      go_region_law (first | (go_simp; go_at_call 61; refine (HF.out _).mono ?_; rintro e w9 ⟨rfl, hb9⟩; have hown9 : w9.ownsRow (O + 1) 9 1 (.slice A' j c') j ((List.replicate j T).map Value.string) := (by first | exact own_below hown hb9 | exact own_below hown.drew hb9 | exact own_below (own_drewN hown _) hb9); have hs9 := hb9.size; (try simp at hs9); have hko9 : w9.heap[O]? = some (.cells #[.int .i64 d, .int .i64 f, .slice A' j c'] 26 (0, 0)) := (by first | exact blk_next hko hb9 | exact blk_next (blk_drew hko) hb9); have hkr9 : w9.heap[w.heap.size]? = some (.cells #[.int .i64 0, .int .i64 0, .slice none 0 0] 26 (0, 0)) := (by first | exact blk_next hkr hb9 | exact blk_next (blk_drew hkr) hb9); have hO9 : O < w9.heap.size := blk_lt hko9; have hbw9 : Below w.heap.size w w9 := (by first | exact hb.trans (hb9.mono hzr) | exact hb.drew.trans (hb9.mono hzr)); have hcw9 := (blk_cells hko9 2).1; have hfw9 := (blk_cells hko9 2).2) | (refine step_append_sl _ rfl (.tmp 20) (.tmp 24) _ rfl (O + 1) 9 i0 _ 1 16 Try.underlying24 hi0 hi1 hi2 hi3 rfl (by omega) (.slice A' j c') j ((List.replicate j T).map Value.string) rfl ?_ (w9.heap.size + 1) (some ⟨w9.heap.size, 0, none⟩) 1 1 [Value.string T] rfl ?_ hone ?_ ?_ ?_ ?_; (focus ((repeat (first | (with_reducible exact hown9) | (with_reducible refine World.ownsRow.drew ?_) | (with_reducible refine World.ownsRow.alloc ?_ _))); (first | done | fail))); (first | exact (reads_one _ _).drew | exact (reads_one _ _)); (unfold maxLen; omega); omega; (simp; omega); intro A3 c3 w3 ho3 hb3; have hko3 : w3.heap[O]? = some (.cells #[.int .i64 d, .int .i64 f, .slice A' j c'] 26 (0, 0)) := blk_below (by first | exact blk_alloc hko9 _ | exact blk_drew (blk_alloc hko9 _)) hb3 (by omega); have hco3 := (blk_cells hko3 2).1; have hfo3 := (blk_cells hko3 2).2; have hbw3 : Below w.heap.size w w3 := (by first | exact (hbw9.alloc hbw9.size _).trans (hb3.mono (by omega)) | exact (hbw9.alloc hbw9.size _).drew.trans (hb3.mono (by omega))); have hkr3 : w3.heap[w.heap.size]? = some (.cells #[.int .i64 0, .int .i64 0, .slice none 0 0] 26 (0, 0)) := blk_below (by first | exact blk_alloc hkr9 _ | exact blk_drew (blk_alloc hkr9 _)) hb3 (by omega)))
      all_goals
        go_wp2
        go_roundw
        case rel =>
          rw [HST.out] at ho3
          exact ⟨j + 1, A3, c3, by omega, by go_num, by simpa using blk_set hko3 2 (.slice A3 (j + 1) c3), blk_other hkr3 (show ¬ w.heap.size = O by omega) _, ownsRow_setCell_below ho3 (by simp) _, hbw3.setCell (show w.heap.size ≤ O by omega) _, by have := blk_lt hko3; simp [World.setCell]; omega⟩
        case measure => simp [intOf]; omega
    · have hjn : j = n := by omega
      subst hjn
      have hS : Strs wr wr.heap.size A' j (List.replicate j T) := strs_of_own hown (by omega) (fun x hx => by rw [List.eq_of_mem_replicate hx]; omega)
      have HO := hide hown
      clear hlt hown
      go_wp2_with fail
      refine (i_CardOk d f A' j c' (List.replicate j T) wr hS).mono ?_
      rw [HC.out]
      rintro e w3 ⟨rfl, hb3⟩
      clear hx0 hx1 hx2 hxl hf2
      have hko3 := blk_next hko hb3
      have hkr3 := blk_next hkr hb3
      have ho3 := own_below HO.out hb3
      have hbw3 : Below w.heap.size w w3 := hb.trans (hb3.mono hzr)
      have HO3 := hide ho3
      clear ho3
      obtain ⟨hx0, hx1, hx2, hxl⟩ := blk3 hko3
      obtain ⟨hy0, hy1, hy2, hyl⟩ := blk3 hkr3
      have hf0 := (blk_cells hkr3 0).2
      have hf1 := (blk_cells hkr3 1).2
      have hf2 := (blk_cells hkr3 2).2
      go_wp2
      refine bodyPost_ret (v := .tuple #[.agg #[.int .i64 d, .int .i64 f, .slice A' j c'], .bool true]) (by simp [results, Try.results15, go_sem, *]) rfl ?_
      refine ⟨A', c', by rw [List.length_replicate], ?_, ?_⟩
      · rw [List.length_replicate]
        exact own_base (own3_set HO3.out hkr3 (by decide) _ _ _) (by omega)
      · exact hbw3.trans (by repeat (first | (with_reducible exact Below.refl _ _) | (refine Below.setCell ?_ (show w.heap.size ≤ w.heap.size from Nat.le_refl w.heap.size) _)))
set_option maxHeartbeats 800000 in
theorem s_DrawCard (B : Nat) (A : Option Addr) (c : Nat) (bs : List Int) (w : World) (hK : Code w B A bs) (hB : B ≤ w.heap.size) :
    Calls Try.prog 8 #[.slice A bs.length c] w fun e w' => ∃ (d f : Nat) (ss : List ByteArray) (A' : Option Addr) (c' : Nat), (1 ≤ d ∧ d ≤ 4 ∧ 1 ≤ f ∧ f ≤ 4 ∧ 1 ≤ ss.length ∧ ss.length ≤ 6) ∧ (∀ x ∈ ss, Drew d f x) ∧
    e = .returned (.agg #[.int .i64 d, .int .i64 f, .slice A' ss.length c']) ∧ OwnS w' w.heap.size w'.heap.size A' c' ss ∧ Below w.heap.size w w' := by
  go_enter Try.func8, Try.ntmps8
  go_wp2_with fail
  have hkr0 := blk_new w (.cells #[.int .i64 0, .int .i64 0, .slice none 0 0] 26)
  have hb0 : Below w.heap.size w (w.alloc (.cells #[.int .i64 0, .int .i64 0, .slice none 0 0] 26)) := bel
  have hs0 : w.heap.size < (w.alloc (.cells #[.int .i64 0, .int .i64 0, .slice none 0 0] 26)).heap.size := by simp
  generalize w.alloc (.cells #[.int .i64 0, .int .i64 0, .slice none 0 0] 26) = w0 at *
  refine (s_l01New B A c bs w0 (hK.below (hb0.mono hB)) (by omega)).mono ?_
  rintro e w1 ⟨rfl, hC1, hb1⟩
  have hkr1 := blk_next hkr0 hb1
  have hb1' : Below w.heap.size w w1 := hb0.trans (hb1.mono (by omega))
  have hs1 := hb1.size
  go_wp2_with fail
  refine (s_l05Card w0.heap.size B A c bs w1 hC1).mono ?_
  rintro e w2 ⟨d, f, ss, A', c', hbd, hss, rfl, ho2, hC2, hg2⟩
  have HSS := hide hss
  have HBD := hide hbd
  have hkr2 := hC1.blk_keep hkr1 (by omega) hg2
  have hb2 : Below w.heap.size w w2 := hb1'.trans (grown_below hg2 (fun k hk => by injection hk with hk; omega) (by omega))
  have hs2 := hb2.size
  clear hss hbd hkr0 hkr1 hb0 hb1
  obtain ⟨hx0, hx1, hx2, hxl⟩ := blk3 hkr2
  have hf0 := (blk_cells hkr2 0).2
  have hf1 := (blk_cells hkr2 1).2
  have hf2 := (blk_cells hkr2 2).2
  go_wp2
  refine bodyPost_ret (v := .agg #[.int .i64 d, .int .i64 f, .slice A' ss.length c']) (by simp [results, Try.results8, go_sem, *]) rfl ?_
  refine ⟨d, f, ss, A', c', HBD.out, HSS.out, rfl, ?_, ?_⟩
  · exact (ho2.box hkr2 (by decide) (by repeat (first | (with_reducible exact World.grownBy.refl _ _) | (with_reducible refine only_setCell ?_ (.inl rfl) _)))).wide (by omega) (by simp [World.setCell])
  · exact hb2.trans (by repeat (first | (with_reducible exact Below.refl _ _) | (refine Below.setCell ?_ (show w.heap.size ≤ w.heap.size from Nat.le_refl w.heap.size) _)))
end Go.Proofs.Ytmnlinclbnbpoaa
