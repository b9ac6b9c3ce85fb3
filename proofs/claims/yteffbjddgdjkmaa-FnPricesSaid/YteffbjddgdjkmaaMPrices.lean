/- FnPrices: prices add up, and a larger number of copies never costs less than one copy; for all bytes; no condition (the last step: the row's closed facts, one by one, and the row holds). -/
import Derived.Test.YteffbjddgdjkmaaWPrices
import Derived.Test.YteffbjddgdjkmaaLawDraw
import Derived.Test.YteffbjddgdjkmaaLift
import Derived.Test.YteffbjddgdjkmaaLawKit2
import Derived.Deep.Slices
import Derived.SliceStrings
import Derived.Lib.SmallJoins
import Derived.Deep.DeepCutAuto
import Derived.JoinedOf
import Derived.KernelRfl
namespace Go.Proofs.Yteffbjddgdjkmaa.fnPrices
open Go.ChangeShapes Go.WideShapes Go.ChangeAt Go.RowKit Go.Joins Go.WideMaps Go.WideElems
set_option linter.unusedVariables false
set_option maxRecDepth 10000

set_option maxHeartbeats 800000 in
theorem bigPrices (A : Option Addr) (n c : Nat) (w : World) (h : n ≤ 9223372036854775807) (hb : 1048576 < n) :
    Calls Try.prog 3 #[.slice A n c] w fun e w' => e = .returned (.bool true) ∧ Below w.heap.size w w' := by
  have hd : decide (1048576 < n) = true := by simpa using hb
  go_enter Try.func3, Try.ntmps3
  go_wp2_with (go_at_call 10; refine (l_big _ _ _ _ h).mono ?_; rw [hd]; rintro e w' ⟨rfl, rfl⟩)
  go_ret
  exact ⟨rfl, Below.refl _ _⟩

set_option maxRecDepth 100000 in
theorem lifted (os : Os) (started : os.Started) (H : Type) (enc : TypeId × Value → H) :
    ReturnsInHanded {} Try.checked os 3 .any (Rows.fnPricesSpec.pre6 enc Try.prog Try.f3 Rows.fnPricesRow.domain false) (Rows.fnPricesSpec.post enc Try.prog Try.f3 false true false false) := by
  refine returnsInHanded_of_change_shaped (C := Try.checked) own0 started (by kernel_rfl) Try.func3
    (ChangeSpec.witness6 (enc := enc) (C := Try.checked) false ⟨#[], #[.slice none 0 0], []⟩ 8 (by kernel_rfl) (by kernel_rfl) (by kernel_rfl) (by kernel_rfl)) ?_
  intro W base args ds gs before hval0 hW hcnd _ hsh _
  have hval : ∀ (j : Nat) t v, Try.f3.params[j]? = some t → args[j]? = some v → Value.okWide Try.prog W .any base t v := hval0
  have hW' := hW
  obtain ⟨p, q, hA0, hV, _, hfz, hnd⟩ := hW
  have hA : DataW.TrodAll enc Try.prog W 0 (fun _ => true) true Try.f3.params.toList args.toList ds p := hA0
  rw [Try.params3] at hA hval
  obtain ⟨v0, vs0, d0, ds0, p0, q0, hargs, hds, _, h0, r0⟩ := trodAll_cons hA
  obtain ⟨rfl, rfl, _⟩ := trodAll_nil r0
  obtain rfl : args = #[v0] := by cases args; simp_all
  have fin : Calls Try.prog 3 #[v0] W fun e w' => e = .returned (.bool true) ∧ Below W.heap.size W w' := by
    obtain ⟨A, c, bs, rfl, hR, hm, hbd⟩ := open_code (hval 0 22 v0 rfl rfl) h0
    by_cases hb : 1048576 < bs.length
    case pos => exact bigPrices A bs.length c W (by unfold maxLen at hm; omega) hb
    exact walkPrices A c bs W ⟨hR, by omega, hbd⟩
  refine fin.mono fun e W' ⟨he, hb⟩ => ?_
  subst he
  exact ⟨_, rfl, post_law hW' rfl (by rw [Try.params3]; intro t ht; simp at ht; subst ht; exact ⟨by kernel_rfl, of_decide_eq_true (by kernel_rfl)⟩) rfl (by
    intro _; subst hds; rfl) hb⟩

end Go.Proofs.Yteffbjddgdjkmaa.fnPrices

namespace Go.Proofs.Yteffbjddgdjkmaa.fnPrices
open Go
set_option linter.unusedVariables false

theorem fact1 : (fun (P : Program) (f : FuncId) (fn : Func) (s : ChangeSpec) (c : OpenClaim) => (c.wf (OpenSpec.ofChange s) : Bool)) Try.prog 3 Try.f3 Rows.fnPricesSpec Rows.fnPricesRow = true := by kernel_rfl
theorem fact2 : (fun (P : Program) (f : FuncId) (fn : Func) (s : ChangeSpec) (c : OpenClaim) => (laidOutB P : Bool)) Try.prog 3 Try.f3 Rows.fnPricesSpec Rows.fnPricesRow = true := by kernel_rfl
theorem fact3 : (fun (P : Program) (f : FuncId) (fn : Func) (s : ChangeSpec) (c : OpenClaim) => (mapsRowed P : Bool)) Try.prog 3 Try.f3 Rows.fnPricesSpec Rows.fnPricesRow = true := by kernel_rfl
theorem fact4 : (fun (P : Program) (f : FuncId) (fn : Func) (s : ChangeSpec) (c : OpenClaim) => (fn.params.all (P.readableRec ·) : Bool)) Try.prog 3 Try.f3 Rows.fnPricesSpec Rows.fnPricesRow = true := by kernel_rfl
theorem fact5 : (fun (P : Program) (f : FuncId) (fn : Func) (s : ChangeSpec) (c : OpenClaim) => (namedTie P c.named s.vars : Bool)) Try.prog 3 Try.f3 Rows.fnPricesSpec Rows.fnPricesRow = true := by kernel_rfl
theorem fact6 : (fun (P : Program) (f : FuncId) (fn : Func) (s : ChangeSpec) (c : OpenClaim) => ((c.stops == []) : Bool)) Try.prog 3 Try.f3 Rows.fnPricesSpec Rows.fnPricesRow = true := by kernel_rfl
theorem fact7 : (fun (P : Program) (f : FuncId) (fn : Func) (s : ChangeSpec) (c : OpenClaim) => ((P.stops == []) : Bool)) Try.prog 3 Try.f3 Rows.fnPricesSpec Rows.fnPricesRow = true := by kernel_rfl
theorem fact8 : (fun (P : Program) (f : FuncId) (fn : Func) (s : ChangeSpec) (c : OpenClaim) => ((c.knobs == []) : Bool)) Try.prog 3 Try.f3 Rows.fnPricesSpec Rows.fnPricesRow = true := by kernel_rfl
theorem fact9 : (fun (P : Program) (f : FuncId) (fn : Func) (s : ChangeSpec) (c : OpenClaim) => ((P.stopKnobs == []) : Bool)) Try.prog 3 Try.f3 Rows.fnPricesSpec Rows.fnPricesRow = true := by kernel_rfl
theorem fact10 : (fun (P : Program) (f : FuncId) (fn : Func) (s : ChangeSpec) (c : OpenClaim) => ((c.inPlace == P.inPlace f) : Bool)) Try.prog 3 Try.f3 Rows.fnPricesSpec Rows.fnPricesRow = true := by kernel_rfl
theorem fact11 : (fun (P : Program) (f : FuncId) (fn : Func) (s : ChangeSpec) (c : OpenClaim) => ((c.unfollowed == P.unfollowed f) : Bool)) Try.prog 3 Try.f3 Rows.fnPricesSpec Rows.fnPricesRow = true := by kernel_rfl
theorem fact12 : (fun (P : Program) (f : FuncId) (fn : Func) (s : ChangeSpec) (c : OpenClaim) => ((c.recurses == P.recurses f) : Bool)) Try.prog 3 Try.f3 Rows.fnPricesSpec Rows.fnPricesRow = true := by kernel_rfl
theorem fact13 : (fun (P : Program) (f : FuncId) (fn : Func) (s : ChangeSpec) (c : OpenClaim) => ((c.named == P.varsNamed f) : Bool)) Try.prog 3 Try.f3 Rows.fnPricesSpec Rows.fnPricesRow = true := by kernel_rfl
theorem fact14 : (fun (P : Program) (f : FuncId) (fn : Func) (s : ChangeSpec) (c : OpenClaim) => ((c.maps == (fn.params.toList ++ s.plain.varTypes P).any (P.mapsRec ·)) : Bool)) Try.prog 3 Try.f3 Rows.fnPricesSpec Rows.fnPricesRow = true := by kernel_rfl
theorem fact15 : (fun (P : Program) (f : FuncId) (fn : Func) (s : ChangeSpec) (c : OpenClaim) => ((c.ifaces == (fn.params.toList ++ s.plain.varTypes P).any (P.ifacesRec ·)) : Bool)) Try.prog 3 Try.f3 Rows.fnPricesSpec Rows.fnPricesRow = true := by kernel_rfl
theorem fact16 : (fun (P : Program) (f : FuncId) (fn : Func) (s : ChangeSpec) (c : OpenClaim) => ((c.mapsOut == P.mapsAmong fn.resultTypes.toList) : Bool)) Try.prog 3 Try.f3 Rows.fnPricesSpec Rows.fnPricesRow = true := by kernel_rfl
theorem fact17 : (fun (P : Program) (f : FuncId) (fn : Func) (s : ChangeSpec) (c : OpenClaim) => ((c.loops == (fn.params.toList ++ s.plain.varTypes P).any (P.loopsFrom ·)) : Bool)) Try.prog 3 Try.f3 Rows.fnPricesSpec Rows.fnPricesRow = true := by kernel_rfl
theorem fact18 : (fun (P : Program) (f : FuncId) (fn : Func) (s : ChangeSpec) (c : OpenClaim) => ((c.wideKeys == (fn.params.toList ++ s.plain.varTypes P ++ fn.resultTypes.toList).any (P.wideKeysFrom ·)) : Bool)) Try.prog 3 Try.f3 Rows.fnPricesSpec Rows.fnPricesRow = true := by kernel_rfl
theorem fact19 : (fun (P : Program) (f : FuncId) (fn : Func) (s : ChangeSpec) (c : OpenClaim) => (s.vars.all (P.varReadable ·) : Bool)) Try.prog 3 Try.f3 Rows.fnPricesSpec Rows.fnPricesRow = true := by kernel_rfl
theorem fact20 : (fun (P : Program) (f : FuncId) (fn : Func) (s : ChangeSpec) (c : OpenClaim) => (fn.resultTypes.all (fun t => P.readableRec t && decide (t < P.types.size)) : Bool)) Try.prog 3 Try.f3 Rows.fnPricesSpec Rows.fnPricesRow = true := by kernel_rfl
theorem fact21 : (fun (P : Program) (f : FuncId) (fn : Func) (s : ChangeSpec) (c : OpenClaim) => ((c.ifacesOut == fn.resultTypes.toList.any (P.ifacesRec ·)) : Bool)) Try.prog 3 Try.f3 Rows.fnPricesSpec Rows.fnPricesRow = true := by kernel_rfl
theorem fact22 : (fun (P : Program) (f : FuncId) (fn : Func) (s : ChangeSpec) (c : OpenClaim) => ((c.loopsOut == fn.resultTypes.toList.any (P.loopsFrom ·)) : Bool)) Try.prog 3 Try.f3 Rows.fnPricesSpec Rows.fnPricesRow = true := by kernel_rfl
theorem fact23 : (fun (P : Program) (f : FuncId) (fn : Func) (s : ChangeSpec) (c : OpenClaim) => ((c.plainKeys == P.plainKeys) : Bool)) Try.prog 3 Try.f3 Rows.fnPricesSpec Rows.fnPricesRow = true := by kernel_rfl
theorem fact24 : (fun (P : Program) (f : FuncId) (fn : Func) (s : ChangeSpec) (c : OpenClaim) => (c.shortTexts.isNone : Bool)) Try.prog 3 Try.f3 Rows.fnPricesSpec Rows.fnPricesRow = true := by kernel_rfl
theorem fact25 : (fun (P : Program) (f : FuncId) (fn : Func) (s : ChangeSpec) (c : OpenClaim) => (P.stopsHeard : Bool)) Try.prog 3 Try.f3 Rows.fnPricesSpec Rows.fnPricesRow = true := by kernel_rfl
theorem fact26 : (fun (P : Program) (f : FuncId) (fn : Func) (s : ChangeSpec) (c : OpenClaim) => (P.mayEnter : Bool)) Try.prog 3 Try.f3 Rows.fnPricesSpec Rows.fnPricesRow = true := by kernel_rfl
theorem fact27 : (fun (P : Program) (f : FuncId) (fn : Func) (s : ChangeSpec) (c : OpenClaim) => ((c.lifted == P.liftsFinal) : Bool)) Try.prog 3 Try.f3 Rows.fnPricesSpec Rows.fnPricesRow = true := by kernel_rfl
theorem fact28 : (fun (P : Program) (f : FuncId) (fn : Func) (s : ChangeSpec) (c : OpenClaim) => ((P.make == some c.make) : Bool)) Try.prog 3 Try.f3 Rows.fnPricesSpec Rows.fnPricesRow = true := by kernel_rfl
theorem fact29 : (fun (P : Program) (f : FuncId) (fn : Func) (s : ChangeSpec) (c : OpenClaim) => ((c.kinds == (if c.domain.isEmpty then [] else fn.params.toList.map fun t => match P.underlying t with | some (.int k) => some k | _ => none)) : Bool)) Try.prog 3 Try.f3 Rows.fnPricesSpec Rows.fnPricesRow = true := by kernel_rfl
theorem fact30 : (fun (P : Program) (f : FuncId) (fn : Func) (s : ChangeSpec) (c : OpenClaim) => ((c.pinned == c.pinnedBy) : Bool)) Try.prog 3 Try.f3 Rows.fnPricesSpec Rows.fnPricesRow = true := by kernel_rfl
theorem fact31 : (fun (P : Program) (f : FuncId) (fn : Func) (s : ChangeSpec) (c : OpenClaim) => ((c.veiled == (fn.params.toList ++ s.plain.varTypes P ++ fn.resultTypes.toList).any (P.veiledRec ·)) : Bool)) Try.prog 3 Try.f3 Rows.fnPricesSpec Rows.fnPricesRow = true := by kernel_rfl
theorem fact32 : (fun (P : Program) (f : FuncId) (fn : Func) (s : ChangeSpec) (c : OpenClaim) => (c.veiledFits P fn.params.toList (fn.params.toList ++ s.plain.varTypes P ++ fn.resultTypes.toList) : Bool)) Try.prog 3 Try.f3 Rows.fnPricesSpec Rows.fnPricesRow = true := by kernel_rfl

theorem and_true' {a b : Bool} (ha : a = true) (hb : b = true) : (a && b) = true := by rw [ha, hb]; rfl

set_option maxRecDepth 100000 in
theorem closed : joinedFacts Try.prog 3 Try.f3 Rows.fnPricesSpec Rows.fnPricesRow = true := by
  unfold joinedFacts
  try dsimp only
  have h1 := fact1
  dsimp only at h1
  have h2 := fact2
  dsimp only at h2
  have h3 := fact3
  dsimp only at h3
  have h4 := fact4
  dsimp only at h4
  have h5 := fact5
  dsimp only at h5
  have h6 := fact6
  dsimp only at h6
  have h7 := fact7
  dsimp only at h7
  have h8 := fact8
  dsimp only at h8
  have h9 := fact9
  dsimp only at h9
  have h10 := fact10
  dsimp only at h10
  have h11 := fact11
  dsimp only at h11
  have h12 := fact12
  dsimp only at h12
  have h13 := fact13
  dsimp only at h13
  have h14 := fact14
  dsimp only at h14
  have h15 := fact15
  dsimp only at h15
  have h16 := fact16
  dsimp only at h16
  have h17 := fact17
  dsimp only at h17
  have h18 := fact18
  dsimp only at h18
  have h19 := fact19
  dsimp only at h19
  have h20 := fact20
  dsimp only at h20
  have h21 := fact21
  dsimp only at h21
  have h22 := fact22
  dsimp only at h22
  have h23 := fact23
  dsimp only at h23
  have h24 := fact24
  dsimp only at h24
  have h25 := fact25
  dsimp only at h25
  have h26 := fact26
  dsimp only at h26
  have h27 := fact27
  dsimp only at h27
  have h28 := fact28
  dsimp only at h28
  have h29 := fact29
  dsimp only at h29
  have h30 := fact30
  dsimp only at h30
  have h31 := fact31
  dsimp only at h31
  have h32 := fact32
  dsimp only at h32
  exact (and_true' (and_true' (and_true' (and_true' (and_true' (and_true' (and_true' (and_true' (and_true' (and_true' (and_true' (and_true' (and_true' (and_true' (and_true' (and_true' (and_true' (and_true' (and_true' (and_true' (and_true' (and_true' (and_true' (and_true' (and_true' (and_true' (and_true' (and_true' (and_true' (and_true' (and_true' h1 h2) h3) h4) h5) h6) h7) h8) h9) h10) h11) h12) h13) h14) h15) h16) h17) h18) h19) h20) h21) h22) h23) h24) h25) h26) h27) h28) h29) h30) h31) h32)

theorem named : Try.checked.prog.funcNamed Rows.fnPricesRow.func = some 3 := by kernel_rfl

theorem inst : Try.f3.isInstance Try.prog Rows.fnPricesRow.origin Rows.fnPricesRow.targs := of_decide_eq_true (by kernel_rfl)

theorem wrap : Try.f3.isWrapper Try.prog Rows.fnPricesRow.wrapper Rows.fnPricesRow.mainSum := by unfold Func.isWrapper; first | (rw [if_pos (by decide +kernel)]; kernel_rfl) | (rw [if_neg (by decide +kernel)]; exact ⟨rfl, rfl⟩)

theorem proved : Rows.FnPricesSaid :=
  OpenClaim.holds_of_wide 3 Try.f3 rfl rfl rfl rfl rfl rfl rfl ⟨rfl, rfl, rfl, rfl, rfl⟩ rfl rfl rfl rfl rfl named Try.func3 closed
    inst wrap
    (fun os started H enc _ => lifted os started H enc)

end Go.Proofs.Yteffbjddgdjkmaa.fnPrices
