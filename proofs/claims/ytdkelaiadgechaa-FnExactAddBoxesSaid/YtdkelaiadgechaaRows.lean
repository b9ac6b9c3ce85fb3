/-
  No cell of these rows narrows 'for every input' (looked for: loops, veiled, ifaces, maps, wideKeys, modest, calm, conditions, laid).
  DERIVED. THE GIVEN ROWS OF THIS SEAT. 12 by the template 'for every input the law returns true; each argument reads behind the call as it read before'; 0 by the template 'total and deterministic' (their statements: YtdkelaiadgechaaTotals.lean).
  GIVEN WITH THE SEED: the statements are not yours to turn. If you find one false, say at which input.
  Laid BY PROGRAM, IN A SANDBOX (cutbox-rows.mjs): the forced cells as the released guide's own fill.sh prints them over the translation 0c21008decc1d32b… (all of the seat's roots in one cut). By AI agents, Wed Nov 11 2026. No macro, syntax, notation, axiom, sorry.
-/
import Derived.Test.YtdkelaiadgechaaChecked
import GoSem.Claim
import GoSem.ClaimJoined
import GoSem.ClaimMapViews
import Derived.JoinedTies
import Derived.KernelRfl
namespace Go.Proofs.Ytdkelaiadgechaa
/- THE CELL 'sum', in the pinned program and in every row, IS THE sha256 OF THE DUMP (.gsa) THAT YtdkelaiadgechaaProg.lean LOADS. Nothing in Lean hashes anything: it is a label: what it is worth is what the hold of that sum in a sandbox is worth. -/
noncomputable def Try.pinned : Pinned := { name := "ytdkelaiadgechaa", sum := "0c21008decc1d32b04af5b697da1345187db63946e5a09799278d2de49acaea7", checked := Try.checked }
namespace Rows
def none {H : Type} : Left H := { results := [], args := [] }

/-- 'laws.FnExactTakeBox': WHATEVER THE INPUT: true; the input reads as it did. -/
def fnExactTakeBoxSpec : ChangeSpec := { name := "fnExactTakeBox", fn := fun _ => fun
  | [d1, d2] => { results := [.lit (.bool true)], args := [d1, d2] }
  | _ => none }
def fnExactTakeBoxRow : OpenClaim := { program := "ytdkelaiadgechaa", sum := "0c21008decc1d32b04af5b697da1345187db63946e5a09799278d2de49acaea7", func := "loop.example/g03305/laws.FnExactTakeBox", spec := "fnExactTakeBox", inPlace := ["internal/bytealg.CountString", "internal/bytealg.IndexByteString", "internal/bytealg.IndexString"], unfollowed := true, recurses := true, named := ["internal/bytealg.MaxLen"], apart := false }
def FnExactTakeBoxSaid : Prop := fnExactTakeBoxRow.holds Try.pinned (OpenSpec.ofChange fnExactTakeBoxSpec)

/-- ITS FALSE NEIGHBOUR: 'it returns false'. Refute it at one input. -/
def fnExactTakeBoxWrong : ChangeSpec := { name := "fnExactTakeBox", fn := fun _ => fun
  | [d1, d2] => { results := [.lit (.bool false)], args := [d1, d2] }
  | _ => none }
def FnExactTakeBoxWrongFalsely : Prop := fnExactTakeBoxRow.holds Try.pinned (OpenSpec.ofChange fnExactTakeBoxWrong)

/-- 'laws.FnExactAddBox': WHATEVER THE INPUT: true; the input reads as it did. -/
def fnExactAddBoxSpec : ChangeSpec := { name := "fnExactAddBox", fn := fun _ => fun
  | [d1, d2] => { results := [.lit (.bool true)], args := [d1, d2] }
  | _ => none }
def fnExactAddBoxRow : OpenClaim := { program := "ytdkelaiadgechaa", sum := "0c21008decc1d32b04af5b697da1345187db63946e5a09799278d2de49acaea7", func := "loop.example/g03305/laws.FnExactAddBox", spec := "fnExactAddBox", inPlace := ["internal/bytealg.CountString", "internal/bytealg.IndexByteString", "internal/bytealg.IndexString"], unfollowed := true, recurses := true, named := ["internal/bytealg.MaxLen"], apart := false }
def FnExactAddBoxSaid : Prop := fnExactAddBoxRow.holds Try.pinned (OpenSpec.ofChange fnExactAddBoxSpec)

/-- ITS FALSE NEIGHBOUR: 'it returns false'. Refute it at one input. -/
def fnExactAddBoxWrong : ChangeSpec := { name := "fnExactAddBox", fn := fun _ => fun
  | [d1, d2] => { results := [.lit (.bool false)], args := [d1, d2] }
  | _ => none }
def FnExactAddBoxWrongFalsely : Prop := fnExactAddBoxRow.holds Try.pinned (OpenSpec.ofChange fnExactAddBoxWrong)

/-- 'laws.FnExactSideDistance': WHATEVER THE INPUT: true; the input reads as it did. -/
def fnExactSideDistanceSpec : ChangeSpec := { name := "fnExactSideDistance", fn := fun _ => fun
  | [d1, d2] => { results := [.lit (.bool true)], args := [d1, d2] }
  | _ => none }
def fnExactSideDistanceRow : OpenClaim := { program := "ytdkelaiadgechaa", sum := "0c21008decc1d32b04af5b697da1345187db63946e5a09799278d2de49acaea7", func := "loop.example/g03305/laws.FnExactSideDistance", spec := "fnExactSideDistance", inPlace := ["internal/bytealg.CountString", "internal/bytealg.IndexByteString", "internal/bytealg.IndexString"], named := ["internal/bytealg.MaxLen"], apart := false }
def FnExactSideDistanceSaid : Prop := fnExactSideDistanceRow.holds Try.pinned (OpenSpec.ofChange fnExactSideDistanceSpec)

/-- ITS FALSE NEIGHBOUR: 'it returns false'. Refute it at one input. -/
def fnExactSideDistanceWrong : ChangeSpec := { name := "fnExactSideDistance", fn := fun _ => fun
  | [d1, d2] => { results := [.lit (.bool false)], args := [d1, d2] }
  | _ => none }
def FnExactSideDistanceWrongFalsely : Prop := fnExactSideDistanceRow.holds Try.pinned (OpenSpec.ofChange fnExactSideDistanceWrong)

/-- 'laws.FnExactSymmetrizeCard': WHATEVER THE INPUT: true; the input reads as it did. -/
def fnExactSymmetrizeCardSpec : ChangeSpec := { name := "fnExactSymmetrizeCard", fn := fun _ => fun
  | [d] => { results := [.lit (.bool true)], args := [d] }
  | _ => none }
def fnExactSymmetrizeCardRow : OpenClaim := { program := "ytdkelaiadgechaa", sum := "0c21008decc1d32b04af5b697da1345187db63946e5a09799278d2de49acaea7", func := "loop.example/g03305/laws.FnExactSymmetrizeCard", spec := "fnExactSymmetrizeCard", inPlace := ["internal/bytealg.CountString", "internal/bytealg.IndexByteString", "internal/bytealg.IndexString"], unfollowed := true, recurses := true, named := ["internal/bytealg.MaxLen"], apart := false }
def FnExactSymmetrizeCardSaid : Prop := fnExactSymmetrizeCardRow.holds Try.pinned (OpenSpec.ofChange fnExactSymmetrizeCardSpec)

/-- ITS FALSE NEIGHBOUR: 'it returns false'. Refute it at one input. -/
def fnExactSymmetrizeCardWrong : ChangeSpec := { name := "fnExactSymmetrizeCard", fn := fun _ => fun
  | [d] => { results := [.lit (.bool false)], args := [d] }
  | _ => none }
def FnExactSymmetrizeCardWrongFalsely : Prop := fnExactSymmetrizeCardRow.holds Try.pinned (OpenSpec.ofChange fnExactSymmetrizeCardWrong)

/-- 'laws.FnExactCardNamed': WHATEVER THE INPUT: true; the input reads as it did. -/
def fnExactCardNamedSpec : ChangeSpec := { name := "fnExactCardNamed", fn := fun _ => fun
  | [d1, d2] => { results := [.lit (.bool true)], args := [d1, d2] }
  | _ => none }
def fnExactCardNamedRow : OpenClaim := { program := "ytdkelaiadgechaa", sum := "0c21008decc1d32b04af5b697da1345187db63946e5a09799278d2de49acaea7", func := "loop.example/g03305/laws.FnExactCardNamed", spec := "fnExactCardNamed", inPlace := ["internal/bytealg.CountString", "internal/bytealg.IndexByteString", "internal/bytealg.IndexString"], unfollowed := true, recurses := true, named := ["internal/bytealg.MaxLen"], apart := false }
def FnExactCardNamedSaid : Prop := fnExactCardNamedRow.holds Try.pinned (OpenSpec.ofChange fnExactCardNamedSpec)

/-- ITS FALSE NEIGHBOUR: 'it returns false'. Refute it at one input. -/
def fnExactCardNamedWrong : ChangeSpec := { name := "fnExactCardNamed", fn := fun _ => fun
  | [d1, d2] => { results := [.lit (.bool false)], args := [d1, d2] }
  | _ => none }
def FnExactCardNamedWrongFalsely : Prop := fnExactCardNamedRow.holds Try.pinned (OpenSpec.ofChange fnExactCardNamedWrong)

/-- 'laws.FnExactPutStrip': WHATEVER THE INPUT: true; the input reads as it did. -/
def fnExactPutStripSpec : ChangeSpec := { name := "fnExactPutStrip", fn := fun _ => fun
  | [d1, d2, d3] => { results := [.lit (.bool true)], args := [d1, d2, d3] }
  | _ => none }
def fnExactPutStripRow : OpenClaim := { program := "ytdkelaiadgechaa", sum := "0c21008decc1d32b04af5b697da1345187db63946e5a09799278d2de49acaea7", func := "loop.example/g03305/laws.FnExactPutStrip", spec := "fnExactPutStrip", inPlace := ["internal/bytealg.CountString", "internal/bytealg.IndexByteString", "internal/bytealg.IndexString", "slices.overlaps[string]"], named := ["internal/bytealg.MaxLen"], apart := false }
def FnExactPutStripSaid : Prop := fnExactPutStripRow.holds Try.pinned (OpenSpec.ofChange fnExactPutStripSpec)

/-- ITS FALSE NEIGHBOUR: 'it returns false'. Refute it at one input. -/
def fnExactPutStripWrong : ChangeSpec := { name := "fnExactPutStrip", fn := fun _ => fun
  | [d1, d2, d3] => { results := [.lit (.bool false)], args := [d1, d2, d3] }
  | _ => none }
def FnExactPutStripWrongFalsely : Prop := fnExactPutStripRow.holds Try.pinned (OpenSpec.ofChange fnExactPutStripWrong)

/-- 'laws.FnExactAddBoxes': WHATEVER THE INPUT: true; the input reads as it did. -/
def fnExactAddBoxesSpec : ChangeSpec := { name := "fnExactAddBoxes", fn := fun _ => fun
  | [d1, d2] => { results := [.lit (.bool true)], args := [d1, d2] }
  | _ => none }
def fnExactAddBoxesRow : OpenClaim := { program := "ytdkelaiadgechaa", sum := "0c21008decc1d32b04af5b697da1345187db63946e5a09799278d2de49acaea7", func := "loop.example/g03305/laws.FnExactAddBoxes", spec := "fnExactAddBoxes", inPlace := ["internal/bytealg.CountString", "internal/bytealg.IndexByteString", "internal/bytealg.IndexString"], unfollowed := true, recurses := true, named := ["internal/bytealg.MaxLen"], apart := false }
def FnExactAddBoxesSaid : Prop := fnExactAddBoxesRow.holds Try.pinned (OpenSpec.ofChange fnExactAddBoxesSpec)

/-- ITS FALSE NEIGHBOUR: 'it returns false'. Refute it at one input. -/
def fnExactAddBoxesWrong : ChangeSpec := { name := "fnExactAddBoxes", fn := fun _ => fun
  | [d1, d2] => { results := [.lit (.bool false)], args := [d1, d2] }
  | _ => none }
def FnExactAddBoxesWrongFalsely : Prop := fnExactAddBoxesRow.holds Try.pinned (OpenSpec.ofChange fnExactAddBoxesWrong)

/-- 'laws.FnSides': WHATEVER THE INPUT: true; the input reads as it did. -/
def fnSidesSpec : ChangeSpec := { name := "fnSides", fn := fun _ => fun
  | [d] => { results := [.lit (.bool true)], args := [d] }
  | _ => none }
def fnSidesRow : OpenClaim := { program := "ytdkelaiadgechaa", sum := "0c21008decc1d32b04af5b697da1345187db63946e5a09799278d2de49acaea7", func := "loop.example/g03305/laws.FnSides", spec := "fnSides", inPlace := ["internal/bytealg.CountString", "internal/bytealg.IndexByteString", "internal/bytealg.IndexString"], unfollowed := true, recurses := true, named := ["internal/bytealg.MaxLen"], apart := false }
def FnSidesSaid : Prop := fnSidesRow.holds Try.pinned (OpenSpec.ofChange fnSidesSpec)

/-- ITS FALSE NEIGHBOUR: 'it returns false'. Refute it at one input. -/
def fnSidesWrong : ChangeSpec := { name := "fnSides", fn := fun _ => fun
  | [d] => { results := [.lit (.bool false)], args := [d] }
  | _ => none }
def FnSidesWrongFalsely : Prop := fnSidesRow.holds Try.pinned (OpenSpec.ofChange fnSidesWrong)

/-- 'laws.FnExactDropItem': WHATEVER THE INPUT: true; the input reads as it did. -/
def fnExactDropItemSpec : ChangeSpec := { name := "fnExactDropItem", fn := fun _ => fun
  | [d1, d2] => { results := [.lit (.bool true)], args := [d1, d2] }
  | _ => none }
def fnExactDropItemRow : OpenClaim := { program := "ytdkelaiadgechaa", sum := "0c21008decc1d32b04af5b697da1345187db63946e5a09799278d2de49acaea7", func := "loop.example/g03305/laws.FnExactDropItem", spec := "fnExactDropItem", inPlace := ["internal/bytealg.CountString", "internal/bytealg.IndexByteString", "internal/bytealg.IndexString"], unfollowed := true, recurses := true, named := ["internal/bytealg.MaxLen"], apart := false }
def FnExactDropItemSaid : Prop := fnExactDropItemRow.holds Try.pinned (OpenSpec.ofChange fnExactDropItemSpec)

/-- ITS FALSE NEIGHBOUR: 'it returns false'. Refute it at one input. -/
def fnExactDropItemWrong : ChangeSpec := { name := "fnExactDropItem", fn := fun _ => fun
  | [d1, d2] => { results := [.lit (.bool false)], args := [d1, d2] }
  | _ => none }
def FnExactDropItemWrongFalsely : Prop := fnExactDropItemRow.holds Try.pinned (OpenSpec.ofChange fnExactDropItemWrong)

/-- 'laws.FnLikeness': WHATEVER THE INPUT: true; the input reads as it did. -/
def fnLikenessSpec : ChangeSpec := { name := "fnLikeness", fn := fun _ => fun
  | [d] => { results := [.lit (.bool true)], args := [d] }
  | _ => none }
def fnLikenessRow : OpenClaim := { program := "ytdkelaiadgechaa", sum := "0c21008decc1d32b04af5b697da1345187db63946e5a09799278d2de49acaea7", func := "loop.example/g03305/laws.FnLikeness", spec := "fnLikeness", inPlace := ["internal/bytealg.CountString", "internal/bytealg.IndexByteString", "internal/bytealg.IndexString"], unfollowed := true, recurses := true, named := ["internal/bytealg.MaxLen"], apart := false }
def FnLikenessSaid : Prop := fnLikenessRow.holds Try.pinned (OpenSpec.ofChange fnLikenessSpec)

/-- ITS FALSE NEIGHBOUR: 'it returns false'. Refute it at one input. -/
def fnLikenessWrong : ChangeSpec := { name := "fnLikeness", fn := fun _ => fun
  | [d] => { results := [.lit (.bool false)], args := [d] }
  | _ => none }
def FnLikenessWrongFalsely : Prop := fnLikenessRow.holds Try.pinned (OpenSpec.ofChange fnLikenessWrong)

/-- 'laws.FnExactStepBack': WHATEVER THE INPUT: true; the input reads as it did. -/
def fnExactStepBackSpec : ChangeSpec := { name := "fnExactStepBack", fn := fun _ => fun
  | [d1, d2] => { results := [.lit (.bool true)], args := [d1, d2] }
  | _ => none }
def fnExactStepBackRow : OpenClaim := { program := "ytdkelaiadgechaa", sum := "0c21008decc1d32b04af5b697da1345187db63946e5a09799278d2de49acaea7", func := "loop.example/g03305/laws.FnExactStepBack", spec := "fnExactStepBack", inPlace := ["internal/bytealg.CountString", "internal/bytealg.IndexByteString", "internal/bytealg.IndexString"], unfollowed := true, recurses := true, named := ["internal/bytealg.MaxLen"], apart := false }
def FnExactStepBackSaid : Prop := fnExactStepBackRow.holds Try.pinned (OpenSpec.ofChange fnExactStepBackSpec)

/-- ITS FALSE NEIGHBOUR: 'it returns false'. Refute it at one input. -/
def fnExactStepBackWrong : ChangeSpec := { name := "fnExactStepBack", fn := fun _ => fun
  | [d1, d2] => { results := [.lit (.bool false)], args := [d1, d2] }
  | _ => none }
def FnExactStepBackWrongFalsely : Prop := fnExactStepBackRow.holds Try.pinned (OpenSpec.ofChange fnExactStepBackWrong)

/-- 'laws.FnExactStepOn': WHATEVER THE INPUT: true; the input reads as it did. -/
def fnExactStepOnSpec : ChangeSpec := { name := "fnExactStepOn", fn := fun _ => fun
  | [d1, d2] => { results := [.lit (.bool true)], args := [d1, d2] }
  | _ => none }
def fnExactStepOnRow : OpenClaim := { program := "ytdkelaiadgechaa", sum := "0c21008decc1d32b04af5b697da1345187db63946e5a09799278d2de49acaea7", func := "loop.example/g03305/laws.FnExactStepOn", spec := "fnExactStepOn", inPlace := ["internal/bytealg.CountString", "internal/bytealg.IndexByteString", "internal/bytealg.IndexString"], unfollowed := true, recurses := true, named := ["internal/bytealg.MaxLen"], apart := false }
def FnExactStepOnSaid : Prop := fnExactStepOnRow.holds Try.pinned (OpenSpec.ofChange fnExactStepOnSpec)

/-- ITS FALSE NEIGHBOUR: 'it returns false'. Refute it at one input. -/
def fnExactStepOnWrong : ChangeSpec := { name := "fnExactStepOn", fn := fun _ => fun
  | [d1, d2] => { results := [.lit (.bool false)], args := [d1, d2] }
  | _ => none }
def FnExactStepOnWrongFalsely : Prop := fnExactStepOnRow.holds Try.pinned (OpenSpec.ofChange fnExactStepOnWrong)

/- THE SECOND FORM. 'bulk': how many values and letters a reading holds, each counted each time it is reached (what is shared counts as often as it is met; a slice's spare places count too). A statement '..UptoSaid' is the law's where the arguments, and the package variables that the reading takes, are together of bulk at most 1048576: NARROWER than '..Said'. Prove '..Said' where nothing that the law and all that it calls make is longer than what came in: it says more and counts as full. Else prove '..UptoSaid'. A law counts once. -/
mutual
def uptoBulk {H : Type} : DataW H → Nat
  | .lit (.string bytes) => bytes.length + 1
  | .lit _ => 1
  | .nil => 1
  | .ptr d => uptoBulk d + 1
  | .slice elems spare => uptoBulkAll elems + uptoBulkAll spare + 1
  | .agg parts => uptoBulkAll parts + 1
  | .iface _ d => uptoBulk d + 1
  | .map entries => uptoBulkEntries entries + 1
  | .held _ => 1
def uptoBulkAll {H : Type} : List (DataW H) → Nat
  | [] => 0
  | d :: r => uptoBulk d + uptoBulkAll r
def uptoBulkEntries {H : Type} : List (Lit × DataW H) → Nat
  | [] => 0
  | x :: r => uptoBulkEntry x + uptoBulkEntries r
def uptoBulkEntry {H : Type} : Lit × DataW H → Nat
  | (.string bytes, d) => bytes.length + uptoBulk d + 1
  | (_, d) => uptoBulk d + 1
 end
def uptoSmall : (H : Type) → List (DataW H) → Bool := fun _ ds => decide (uptoBulkAll ds ≤ 1048576)
def OpenSpec.upto (s : _root_.Go.ChangeSpec) : _root_.Go.OpenSpec := { _root_.Go.OpenSpec.ofChange s with cond := some uptoSmall }

/-- 'laws.FnExactTakeBox', WHERE WHAT IT READS IS OF BULK AT MOST 1048576: true; the input reads as it did. -/
def fnExactTakeBoxUptoRow : OpenClaim := { program := "ytdkelaiadgechaa", sum := "0c21008decc1d32b04af5b697da1345187db63946e5a09799278d2de49acaea7", func := "loop.example/g03305/laws.FnExactTakeBox", spec := "fnExactTakeBox", inPlace := ["internal/bytealg.CountString", "internal/bytealg.IndexByteString", "internal/bytealg.IndexString"], unfollowed := true, recurses := true, named := ["internal/bytealg.MaxLen"], apart := false, narrowed := true }
def FnExactTakeBoxUptoSaid : Prop := fnExactTakeBoxUptoRow.holds Try.pinned (OpenSpec.upto fnExactTakeBoxSpec)

/-- 'laws.FnExactAddBox', WHERE WHAT IT READS IS OF BULK AT MOST 1048576: true; the input reads as it did. -/
def fnExactAddBoxUptoRow : OpenClaim := { program := "ytdkelaiadgechaa", sum := "0c21008decc1d32b04af5b697da1345187db63946e5a09799278d2de49acaea7", func := "loop.example/g03305/laws.FnExactAddBox", spec := "fnExactAddBox", inPlace := ["internal/bytealg.CountString", "internal/bytealg.IndexByteString", "internal/bytealg.IndexString"], unfollowed := true, recurses := true, named := ["internal/bytealg.MaxLen"], apart := false, narrowed := true }
def FnExactAddBoxUptoSaid : Prop := fnExactAddBoxUptoRow.holds Try.pinned (OpenSpec.upto fnExactAddBoxSpec)

/-- 'laws.FnExactSideDistance', WHERE WHAT IT READS IS OF BULK AT MOST 1048576: true; the input reads as it did. -/
def fnExactSideDistanceUptoRow : OpenClaim := { program := "ytdkelaiadgechaa", sum := "0c21008decc1d32b04af5b697da1345187db63946e5a09799278d2de49acaea7", func := "loop.example/g03305/laws.FnExactSideDistance", spec := "fnExactSideDistance", inPlace := ["internal/bytealg.CountString", "internal/bytealg.IndexByteString", "internal/bytealg.IndexString"], named := ["internal/bytealg.MaxLen"], apart := false, narrowed := true }
def FnExactSideDistanceUptoSaid : Prop := fnExactSideDistanceUptoRow.holds Try.pinned (OpenSpec.upto fnExactSideDistanceSpec)

/-- 'laws.FnExactSymmetrizeCard', WHERE WHAT IT READS IS OF BULK AT MOST 1048576: true; the input reads as it did. -/
def fnExactSymmetrizeCardUptoRow : OpenClaim := { program := "ytdkelaiadgechaa", sum := "0c21008decc1d32b04af5b697da1345187db63946e5a09799278d2de49acaea7", func := "loop.example/g03305/laws.FnExactSymmetrizeCard", spec := "fnExactSymmetrizeCard", inPlace := ["internal/bytealg.CountString", "internal/bytealg.IndexByteString", "internal/bytealg.IndexString"], unfollowed := true, recurses := true, named := ["internal/bytealg.MaxLen"], apart := false, narrowed := true }
def FnExactSymmetrizeCardUptoSaid : Prop := fnExactSymmetrizeCardUptoRow.holds Try.pinned (OpenSpec.upto fnExactSymmetrizeCardSpec)

/-- 'laws.FnExactCardNamed', WHERE WHAT IT READS IS OF BULK AT MOST 1048576: true; the input reads as it did. -/
def fnExactCardNamedUptoRow : OpenClaim := { program := "ytdkelaiadgechaa", sum := "0c21008decc1d32b04af5b697da1345187db63946e5a09799278d2de49acaea7", func := "loop.example/g03305/laws.FnExactCardNamed", spec := "fnExactCardNamed", inPlace := ["internal/bytealg.CountString", "internal/bytealg.IndexByteString", "internal/bytealg.IndexString"], unfollowed := true, recurses := true, named := ["internal/bytealg.MaxLen"], apart := false, narrowed := true }
def FnExactCardNamedUptoSaid : Prop := fnExactCardNamedUptoRow.holds Try.pinned (OpenSpec.upto fnExactCardNamedSpec)

/-- 'laws.FnExactPutStrip', WHERE WHAT IT READS IS OF BULK AT MOST 1048576: true; the input reads as it did. -/
def fnExactPutStripUptoRow : OpenClaim := { program := "ytdkelaiadgechaa", sum := "0c21008decc1d32b04af5b697da1345187db63946e5a09799278d2de49acaea7", func := "loop.example/g03305/laws.FnExactPutStrip", spec := "fnExactPutStrip", inPlace := ["internal/bytealg.CountString", "internal/bytealg.IndexByteString", "internal/bytealg.IndexString", "slices.overlaps[string]"], named := ["internal/bytealg.MaxLen"], apart := false, narrowed := true }
def FnExactPutStripUptoSaid : Prop := fnExactPutStripUptoRow.holds Try.pinned (OpenSpec.upto fnExactPutStripSpec)

/-- 'laws.FnExactAddBoxes', WHERE WHAT IT READS IS OF BULK AT MOST 1048576: true; the input reads as it did. -/
def fnExactAddBoxesUptoRow : OpenClaim := { program := "ytdkelaiadgechaa", sum := "0c21008decc1d32b04af5b697da1345187db63946e5a09799278d2de49acaea7", func := "loop.example/g03305/laws.FnExactAddBoxes", spec := "fnExactAddBoxes", inPlace := ["internal/bytealg.CountString", "internal/bytealg.IndexByteString", "internal/bytealg.IndexString"], unfollowed := true, recurses := true, named := ["internal/bytealg.MaxLen"], apart := false, narrowed := true }
def FnExactAddBoxesUptoSaid : Prop := fnExactAddBoxesUptoRow.holds Try.pinned (OpenSpec.upto fnExactAddBoxesSpec)

/-- 'laws.FnSides', WHERE WHAT IT READS IS OF BULK AT MOST 1048576: true; the input reads as it did. -/
def fnSidesUptoRow : OpenClaim := { program := "ytdkelaiadgechaa", sum := "0c21008decc1d32b04af5b697da1345187db63946e5a09799278d2de49acaea7", func := "loop.example/g03305/laws.FnSides", spec := "fnSides", inPlace := ["internal/bytealg.CountString", "internal/bytealg.IndexByteString", "internal/bytealg.IndexString"], unfollowed := true, recurses := true, named := ["internal/bytealg.MaxLen"], apart := false, narrowed := true }
def FnSidesUptoSaid : Prop := fnSidesUptoRow.holds Try.pinned (OpenSpec.upto fnSidesSpec)

/-- 'laws.FnExactDropItem', WHERE WHAT IT READS IS OF BULK AT MOST 1048576: true; the input reads as it did. -/
def fnExactDropItemUptoRow : OpenClaim := { program := "ytdkelaiadgechaa", sum := "0c21008decc1d32b04af5b697da1345187db63946e5a09799278d2de49acaea7", func := "loop.example/g03305/laws.FnExactDropItem", spec := "fnExactDropItem", inPlace := ["internal/bytealg.CountString", "internal/bytealg.IndexByteString", "internal/bytealg.IndexString"], unfollowed := true, recurses := true, named := ["internal/bytealg.MaxLen"], apart := false, narrowed := true }
def FnExactDropItemUptoSaid : Prop := fnExactDropItemUptoRow.holds Try.pinned (OpenSpec.upto fnExactDropItemSpec)

/-- 'laws.FnLikeness', WHERE WHAT IT READS IS OF BULK AT MOST 1048576: true; the input reads as it did. -/
def fnLikenessUptoRow : OpenClaim := { program := "ytdkelaiadgechaa", sum := "0c21008decc1d32b04af5b697da1345187db63946e5a09799278d2de49acaea7", func := "loop.example/g03305/laws.FnLikeness", spec := "fnLikeness", inPlace := ["internal/bytealg.CountString", "internal/bytealg.IndexByteString", "internal/bytealg.IndexString"], unfollowed := true, recurses := true, named := ["internal/bytealg.MaxLen"], apart := false, narrowed := true }
def FnLikenessUptoSaid : Prop := fnLikenessUptoRow.holds Try.pinned (OpenSpec.upto fnLikenessSpec)

/-- 'laws.FnExactStepBack', WHERE WHAT IT READS IS OF BULK AT MOST 1048576: true; the input reads as it did. -/
def fnExactStepBackUptoRow : OpenClaim := { program := "ytdkelaiadgechaa", sum := "0c21008decc1d32b04af5b697da1345187db63946e5a09799278d2de49acaea7", func := "loop.example/g03305/laws.FnExactStepBack", spec := "fnExactStepBack", inPlace := ["internal/bytealg.CountString", "internal/bytealg.IndexByteString", "internal/bytealg.IndexString"], unfollowed := true, recurses := true, named := ["internal/bytealg.MaxLen"], apart := false, narrowed := true }
def FnExactStepBackUptoSaid : Prop := fnExactStepBackUptoRow.holds Try.pinned (OpenSpec.upto fnExactStepBackSpec)

/-- 'laws.FnExactStepOn', WHERE WHAT IT READS IS OF BULK AT MOST 1048576: true; the input reads as it did. -/
def fnExactStepOnUptoRow : OpenClaim := { program := "ytdkelaiadgechaa", sum := "0c21008decc1d32b04af5b697da1345187db63946e5a09799278d2de49acaea7", func := "loop.example/g03305/laws.FnExactStepOn", spec := "fnExactStepOn", inPlace := ["internal/bytealg.CountString", "internal/bytealg.IndexByteString", "internal/bytealg.IndexString"], unfollowed := true, recurses := true, named := ["internal/bytealg.MaxLen"], apart := false, narrowed := true }
def FnExactStepOnUptoSaid : Prop := fnExactStepOnUptoRow.holds Try.pinned (OpenSpec.upto fnExactStepOnSpec)

end Rows
end Go.Proofs.Ytdkelaiadgechaa
