/-
  No cell of these rows narrows 'for every input' (looked for: loops, veiled, ifaces, maps, wideKeys, modest, calm, conditions, laid).
  DERIVED. THE GIVEN ROWS OF THIS SEAT. 12 by the template 'for every input the law returns true; each argument reads behind the call as it read before'; 0 by the template 'total and deterministic' (their statements: YtmmohnbmoilaaaaTotals.lean).
  GIVEN WITH THE SEED: the statements are not yours to turn. If you find one false, say at which input.
  Laid BY PROGRAM, IN A SANDBOX (cutbox-rows.mjs): the forced cells as the released guide's own fill.sh prints them over the translation 543a93dc6da933bb… (all of the seat's roots in one cut). By AI agents, Wed Nov 11 2026. No macro, syntax, notation, axiom, sorry.
-/
import Derived.Test.YtmmohnbmoilaaaaChecked
import GoSem.Claim
import GoSem.ClaimJoined
import GoSem.ClaimMapViews
import Derived.JoinedTies
import Derived.KernelRfl
namespace Go.Proofs.Ytmmohnbmoilaaaa
/- THE CELL 'sum', in the pinned program and in every row, IS THE sha256 OF THE DUMP (.gsa) THAT YtmmohnbmoilaaaaProg.lean LOADS. Nothing in Lean hashes anything: it is a label: what it is worth is what the hold of that sum in a sandbox is worth. -/
noncomputable def Try.pinned : Pinned := { name := "ytmmohnbmoilaaaa", sum := "543a93dc6da933bbf8aff39165d5c30bdec627130a3d3b98f891d41d869dcc3c", checked := Try.checked }
namespace Rows
def none {H : Type} : Left H := { results := [], args := [] }

/-- 'laws.FnExactDoStep': WHATEVER THE INPUT: true; the input reads as it did. -/
def fnExactDoStepSpec : ChangeSpec := { name := "fnExactDoStep", fn := fun _ => fun
  | [d1, d2] => { results := [.lit (.bool true)], args := [d1, d2] }
  | _ => none }
def fnExactDoStepRow : OpenClaim := { program := "ytmmohnbmoilaaaa", sum := "543a93dc6da933bbf8aff39165d5c30bdec627130a3d3b98f891d41d869dcc3c", func := "loop.example/g03305/laws.FnExactDoStep", spec := "fnExactDoStep", inPlace := ["internal/bytealg.CountString", "internal/bytealg.IndexByteString", "internal/bytealg.IndexString"], unfollowed := true, recurses := true, named := ["internal/bytealg.MaxLen"], apart := false }
def FnExactDoStepSaid : Prop := fnExactDoStepRow.holds Try.pinned (OpenSpec.ofChange fnExactDoStepSpec)

/-- ITS FALSE NEIGHBOUR: 'it returns false'. Refute it at one input. -/
def fnExactDoStepWrong : ChangeSpec := { name := "fnExactDoStep", fn := fun _ => fun
  | [d1, d2] => { results := [.lit (.bool false)], args := [d1, d2] }
  | _ => none }
def FnExactDoStepWrongFalsely : Prop := fnExactDoStepRow.holds Try.pinned (OpenSpec.ofChange fnExactDoStepWrong)

/-- 'laws.FnExactUndoStep': WHATEVER THE INPUT: true; the input reads as it did. -/
def fnExactUndoStepSpec : ChangeSpec := { name := "fnExactUndoStep", fn := fun _ => fun
  | [d] => { results := [.lit (.bool true)], args := [d] }
  | _ => none }
def fnExactUndoStepRow : OpenClaim := { program := "ytmmohnbmoilaaaa", sum := "543a93dc6da933bbf8aff39165d5c30bdec627130a3d3b98f891d41d869dcc3c", func := "loop.example/g03305/laws.FnExactUndoStep", spec := "fnExactUndoStep", inPlace := ["internal/bytealg.CountString", "internal/bytealg.IndexByteString", "internal/bytealg.IndexString"], unfollowed := true, recurses := true, named := ["internal/bytealg.MaxLen"], apart := false }
def FnExactUndoStepSaid : Prop := fnExactUndoStepRow.holds Try.pinned (OpenSpec.ofChange fnExactUndoStepSpec)

/-- ITS FALSE NEIGHBOUR: 'it returns false'. Refute it at one input. -/
def fnExactUndoStepWrong : ChangeSpec := { name := "fnExactUndoStep", fn := fun _ => fun
  | [d] => { results := [.lit (.bool false)], args := [d] }
  | _ => none }
def FnExactUndoStepWrongFalsely : Prop := fnExactUndoStepRow.holds Try.pinned (OpenSpec.ofChange fnExactUndoStepWrong)

/-- 'laws.FnExactAddItem': WHATEVER THE INPUT: true; the input reads as it did. -/
def fnExactAddItemSpec : ChangeSpec := { name := "fnExactAddItem", fn := fun _ => fun
  | [d1, d2] => { results := [.lit (.bool true)], args := [d1, d2] }
  | _ => none }
def fnExactAddItemRow : OpenClaim := { program := "ytmmohnbmoilaaaa", sum := "543a93dc6da933bbf8aff39165d5c30bdec627130a3d3b98f891d41d869dcc3c", func := "loop.example/g03305/laws.FnExactAddItem", spec := "fnExactAddItem", inPlace := ["slices.overlaps[loop.example/g03305/impl.Item]", "internal/bytealg.CountString", "internal/bytealg.IndexByteString", "internal/bytealg.IndexString"], named := ["internal/bytealg.MaxLen"], apart := false }
def FnExactAddItemSaid : Prop := fnExactAddItemRow.holds Try.pinned (OpenSpec.ofChange fnExactAddItemSpec)

/-- ITS FALSE NEIGHBOUR: 'it returns false'. Refute it at one input. -/
def fnExactAddItemWrong : ChangeSpec := { name := "fnExactAddItem", fn := fun _ => fun
  | [d1, d2] => { results := [.lit (.bool false)], args := [d1, d2] }
  | _ => none }
def FnExactAddItemWrongFalsely : Prop := fnExactAddItemRow.holds Try.pinned (OpenSpec.ofChange fnExactAddItemWrong)

/-- 'laws.FnExactDropItem': WHATEVER THE INPUT: true; the input reads as it did. -/
def fnExactDropItemSpec : ChangeSpec := { name := "fnExactDropItem", fn := fun _ => fun
  | [d1, d2] => { results := [.lit (.bool true)], args := [d1, d2] }
  | _ => none }
def fnExactDropItemRow : OpenClaim := { program := "ytmmohnbmoilaaaa", sum := "543a93dc6da933bbf8aff39165d5c30bdec627130a3d3b98f891d41d869dcc3c", func := "loop.example/g03305/laws.FnExactDropItem", spec := "fnExactDropItem", inPlace := ["internal/bytealg.CountString", "internal/bytealg.IndexByteString", "internal/bytealg.IndexString"], unfollowed := true, recurses := true, named := ["internal/bytealg.MaxLen"], apart := false }
def FnExactDropItemSaid : Prop := fnExactDropItemRow.holds Try.pinned (OpenSpec.ofChange fnExactDropItemSpec)

/-- ITS FALSE NEIGHBOUR: 'it returns false'. Refute it at one input. -/
def fnExactDropItemWrong : ChangeSpec := { name := "fnExactDropItem", fn := fun _ => fun
  | [d1, d2] => { results := [.lit (.bool false)], args := [d1, d2] }
  | _ => none }
def FnExactDropItemWrongFalsely : Prop := fnExactDropItemRow.holds Try.pinned (OpenSpec.ofChange fnExactDropItemWrong)

/-- 'laws.FnExactCardNamed': WHATEVER THE INPUT: true; the input reads as it did. -/
def fnExactCardNamedSpec : ChangeSpec := { name := "fnExactCardNamed", fn := fun _ => fun
  | [d1, d2] => { results := [.lit (.bool true)], args := [d1, d2] }
  | _ => none }
def fnExactCardNamedRow : OpenClaim := { program := "ytmmohnbmoilaaaa", sum := "543a93dc6da933bbf8aff39165d5c30bdec627130a3d3b98f891d41d869dcc3c", func := "loop.example/g03305/laws.FnExactCardNamed", spec := "fnExactCardNamed", inPlace := ["internal/bytealg.CountString", "internal/bytealg.IndexByteString", "internal/bytealg.IndexString"], unfollowed := true, recurses := true, named := ["internal/bytealg.MaxLen"], apart := false }
def FnExactCardNamedSaid : Prop := fnExactCardNamedRow.holds Try.pinned (OpenSpec.ofChange fnExactCardNamedSpec)

/-- ITS FALSE NEIGHBOUR: 'it returns false'. Refute it at one input. -/
def fnExactCardNamedWrong : ChangeSpec := { name := "fnExactCardNamed", fn := fun _ => fun
  | [d1, d2] => { results := [.lit (.bool false)], args := [d1, d2] }
  | _ => none }
def FnExactCardNamedWrongFalsely : Prop := fnExactCardNamedRow.holds Try.pinned (OpenSpec.ofChange fnExactCardNamedWrong)

/-- 'laws.FnExactTwinsIn': WHATEVER THE INPUT: true; the input reads as it did. -/
def fnExactTwinsInSpec : ChangeSpec := { name := "fnExactTwinsIn", fn := fun _ => fun
  | [d] => { results := [.lit (.bool true)], args := [d] }
  | _ => none }
def fnExactTwinsInRow : OpenClaim := { program := "ytmmohnbmoilaaaa", sum := "543a93dc6da933bbf8aff39165d5c30bdec627130a3d3b98f891d41d869dcc3c", func := "loop.example/g03305/laws.FnExactTwinsIn", spec := "fnExactTwinsIn", inPlace := ["internal/bytealg.CountString", "internal/bytealg.IndexByteString", "internal/bytealg.IndexString"], named := ["internal/bytealg.MaxLen"], apart := false }
def FnExactTwinsInSaid : Prop := fnExactTwinsInRow.holds Try.pinned (OpenSpec.ofChange fnExactTwinsInSpec)

/-- ITS FALSE NEIGHBOUR: 'it returns false'. Refute it at one input. -/
def fnExactTwinsInWrong : ChangeSpec := { name := "fnExactTwinsIn", fn := fun _ => fun
  | [d] => { results := [.lit (.bool false)], args := [d] }
  | _ => none }
def FnExactTwinsInWrongFalsely : Prop := fnExactTwinsInRow.holds Try.pinned (OpenSpec.ofChange fnExactTwinsInWrong)

/-- 'laws.FnExactSymmetrizeCard': WHATEVER THE INPUT: true; the input reads as it did. -/
def fnExactSymmetrizeCardSpec : ChangeSpec := { name := "fnExactSymmetrizeCard", fn := fun _ => fun
  | [d] => { results := [.lit (.bool true)], args := [d] }
  | _ => none }
def fnExactSymmetrizeCardRow : OpenClaim := { program := "ytmmohnbmoilaaaa", sum := "543a93dc6da933bbf8aff39165d5c30bdec627130a3d3b98f891d41d869dcc3c", func := "loop.example/g03305/laws.FnExactSymmetrizeCard", spec := "fnExactSymmetrizeCard", inPlace := ["internal/bytealg.CountString", "internal/bytealg.IndexByteString", "internal/bytealg.IndexString"], unfollowed := true, recurses := true, named := ["internal/bytealg.MaxLen"], apart := false }
def FnExactSymmetrizeCardSaid : Prop := fnExactSymmetrizeCardRow.holds Try.pinned (OpenSpec.ofChange fnExactSymmetrizeCardSpec)

/-- ITS FALSE NEIGHBOUR: 'it returns false'. Refute it at one input. -/
def fnExactSymmetrizeCardWrong : ChangeSpec := { name := "fnExactSymmetrizeCard", fn := fun _ => fun
  | [d] => { results := [.lit (.bool false)], args := [d] }
  | _ => none }
def FnExactSymmetrizeCardWrongFalsely : Prop := fnExactSymmetrizeCardRow.holds Try.pinned (OpenSpec.ofChange fnExactSymmetrizeCardWrong)

/-- 'laws.FnExactPutStrip': WHATEVER THE INPUT: true; the input reads as it did. -/
def fnExactPutStripSpec : ChangeSpec := { name := "fnExactPutStrip", fn := fun _ => fun
  | [d1, d2, d3] => { results := [.lit (.bool true)], args := [d1, d2, d3] }
  | _ => none }
def fnExactPutStripRow : OpenClaim := { program := "ytmmohnbmoilaaaa", sum := "543a93dc6da933bbf8aff39165d5c30bdec627130a3d3b98f891d41d869dcc3c", func := "loop.example/g03305/laws.FnExactPutStrip", spec := "fnExactPutStrip", inPlace := ["internal/bytealg.CountString", "internal/bytealg.IndexByteString", "internal/bytealg.IndexString", "slices.overlaps[string]"], named := ["internal/bytealg.MaxLen"], apart := false }
def FnExactPutStripSaid : Prop := fnExactPutStripRow.holds Try.pinned (OpenSpec.ofChange fnExactPutStripSpec)

/-- ITS FALSE NEIGHBOUR: 'it returns false'. Refute it at one input. -/
def fnExactPutStripWrong : ChangeSpec := { name := "fnExactPutStrip", fn := fun _ => fun
  | [d1, d2, d3] => { results := [.lit (.bool false)], args := [d1, d2, d3] }
  | _ => none }
def FnExactPutStripWrongFalsely : Prop := fnExactPutStripRow.holds Try.pinned (OpenSpec.ofChange fnExactPutStripWrong)

/-- 'laws.FnExactOpenCopy': WHATEVER THE INPUT: true; the input reads as it did. -/
def fnExactOpenCopySpec : ChangeSpec := { name := "fnExactOpenCopy", fn := fun _ => fun
  | [d1, d2] => { results := [.lit (.bool true)], args := [d1, d2] }
  | _ => none }
def fnExactOpenCopyRow : OpenClaim := { program := "ytmmohnbmoilaaaa", sum := "543a93dc6da933bbf8aff39165d5c30bdec627130a3d3b98f891d41d869dcc3c", func := "loop.example/g03305/laws.FnExactOpenCopy", spec := "fnExactOpenCopy", inPlace := ["internal/bytealg.CountString", "internal/bytealg.IndexByteString", "internal/bytealg.IndexString"], named := ["internal/bytealg.MaxLen"], apart := false }
def FnExactOpenCopySaid : Prop := fnExactOpenCopyRow.holds Try.pinned (OpenSpec.ofChange fnExactOpenCopySpec)

/-- ITS FALSE NEIGHBOUR: 'it returns false'. Refute it at one input. -/
def fnExactOpenCopyWrong : ChangeSpec := { name := "fnExactOpenCopy", fn := fun _ => fun
  | [d1, d2] => { results := [.lit (.bool false)], args := [d1, d2] }
  | _ => none }
def FnExactOpenCopyWrongFalsely : Prop := fnExactOpenCopyRow.holds Try.pinned (OpenSpec.ofChange fnExactOpenCopyWrong)

/-- 'laws.FnExactExtraCost': WHATEVER THE INPUT: true; the input reads as it did. -/
def fnExactExtraCostSpec : ChangeSpec := { name := "fnExactExtraCost", fn := fun _ => fun
  | [d1, d2, d3] => { results := [.lit (.bool true)], args := [d1, d2, d3] }
  | _ => none }
def fnExactExtraCostRow : OpenClaim := { program := "ytmmohnbmoilaaaa", sum := "543a93dc6da933bbf8aff39165d5c30bdec627130a3d3b98f891d41d869dcc3c", func := "loop.example/g03305/laws.FnExactExtraCost", spec := "fnExactExtraCost", inPlace := ["internal/bytealg.CountString", "internal/bytealg.IndexByteString", "internal/bytealg.IndexString"], unfollowed := true, recurses := true, named := ["internal/bytealg.MaxLen"], apart := false }
def FnExactExtraCostSaid : Prop := fnExactExtraCostRow.holds Try.pinned (OpenSpec.ofChange fnExactExtraCostSpec)

/-- ITS FALSE NEIGHBOUR: 'it returns false'. Refute it at one input. -/
def fnExactExtraCostWrong : ChangeSpec := { name := "fnExactExtraCost", fn := fun _ => fun
  | [d1, d2, d3] => { results := [.lit (.bool false)], args := [d1, d2, d3] }
  | _ => none }
def FnExactExtraCostWrongFalsely : Prop := fnExactExtraCostRow.holds Try.pinned (OpenSpec.ofChange fnExactExtraCostWrong)

/-- 'laws.FnSides': WHATEVER THE INPUT: true; the input reads as it did. -/
def fnSidesSpec : ChangeSpec := { name := "fnSides", fn := fun _ => fun
  | [d] => { results := [.lit (.bool true)], args := [d] }
  | _ => none }
def fnSidesRow : OpenClaim := { program := "ytmmohnbmoilaaaa", sum := "543a93dc6da933bbf8aff39165d5c30bdec627130a3d3b98f891d41d869dcc3c", func := "loop.example/g03305/laws.FnSides", spec := "fnSides", inPlace := ["internal/bytealg.CountString", "internal/bytealg.IndexByteString", "internal/bytealg.IndexString"], unfollowed := true, recurses := true, named := ["internal/bytealg.MaxLen"], apart := false }
def FnSidesSaid : Prop := fnSidesRow.holds Try.pinned (OpenSpec.ofChange fnSidesSpec)

/-- ITS FALSE NEIGHBOUR: 'it returns false'. Refute it at one input. -/
def fnSidesWrong : ChangeSpec := { name := "fnSides", fn := fun _ => fun
  | [d] => { results := [.lit (.bool false)], args := [d] }
  | _ => none }
def FnSidesWrongFalsely : Prop := fnSidesRow.holds Try.pinned (OpenSpec.ofChange fnSidesWrong)

/-- 'laws.FnLikeness': WHATEVER THE INPUT: true; the input reads as it did. -/
def fnLikenessSpec : ChangeSpec := { name := "fnLikeness", fn := fun _ => fun
  | [d] => { results := [.lit (.bool true)], args := [d] }
  | _ => none }
def fnLikenessRow : OpenClaim := { program := "ytmmohnbmoilaaaa", sum := "543a93dc6da933bbf8aff39165d5c30bdec627130a3d3b98f891d41d869dcc3c", func := "loop.example/g03305/laws.FnLikeness", spec := "fnLikeness", inPlace := ["internal/bytealg.CountString", "internal/bytealg.IndexByteString", "internal/bytealg.IndexString"], unfollowed := true, recurses := true, named := ["internal/bytealg.MaxLen"], apart := false }
def FnLikenessSaid : Prop := fnLikenessRow.holds Try.pinned (OpenSpec.ofChange fnLikenessSpec)

/-- ITS FALSE NEIGHBOUR: 'it returns false'. Refute it at one input. -/
def fnLikenessWrong : ChangeSpec := { name := "fnLikeness", fn := fun _ => fun
  | [d] => { results := [.lit (.bool false)], args := [d] }
  | _ => none }
def FnLikenessWrongFalsely : Prop := fnLikenessRow.holds Try.pinned (OpenSpec.ofChange fnLikenessWrong)

/- THE SECOND FORM. 'bulk': how many values and letters a reading holds, each counted each time it is reached (what is shared counts as often as it is met; a slice's spare places count too). A statement '..UptoSaid' is the law's where the arguments, and the package variables that the reading takes, are together of bulk at most 1048576: NARROWER than '..Said'. Prove '..Said' where nothing that the law and all that it calls make is longer than what came in: it says more and counts as full. Else prove '..UptoSaid'. A law counts once. -/
mutual
def uptoBulk {H : Type} : DataW H → Nat
  | .lit (.string bytes) => bytes.length + 1
  | .lit _ => 1
  | .nil => 1
  | .ptr d => uptoBulk d + 1
  | .slice elems spare => uptoBulkAll elems + uptoBulkAll spare + 1
  | .agg parts => uptoBulkAll parts + 1
  | .iface _ d => uptoBulk d + 1
  | .map entries => uptoBulkEntries entries + 1
  | .held _ => 1
def uptoBulkAll {H : Type} : List (DataW H) → Nat
  | [] => 0
  | d :: r => uptoBulk d + uptoBulkAll r
def uptoBulkEntries {H : Type} : List (Lit × DataW H) → Nat
  | [] => 0
  | x :: r => uptoBulkEntry x + uptoBulkEntries r
def uptoBulkEntry {H : Type} : Lit × DataW H → Nat
  | (.string bytes, d) => bytes.length + uptoBulk d + 1
  | (_, d) => uptoBulk d + 1
 end
def uptoSmall : (H : Type) → List (DataW H) → Bool := fun _ ds => decide (uptoBulkAll ds ≤ 1048576)
def OpenSpec.upto (s : _root_.Go.ChangeSpec) : _root_.Go.OpenSpec := { _root_.Go.OpenSpec.ofChange s with cond := some uptoSmall }

/-- 'laws.FnExactDoStep', WHERE WHAT IT READS IS OF BULK AT MOST 1048576: true; the input reads as it did. -/
def fnExactDoStepUptoRow : OpenClaim := { program := "ytmmohnbmoilaaaa", sum := "543a93dc6da933bbf8aff39165d5c30bdec627130a3d3b98f891d41d869dcc3c", func := "loop.example/g03305/laws.FnExactDoStep", spec := "fnExactDoStep", inPlace := ["internal/bytealg.CountString", "internal/bytealg.IndexByteString", "internal/bytealg.IndexString"], unfollowed := true, recurses := true, named := ["internal/bytealg.MaxLen"], apart := false, narrowed := true }
def FnExactDoStepUptoSaid : Prop := fnExactDoStepUptoRow.holds Try.pinned (OpenSpec.upto fnExactDoStepSpec)

/-- 'laws.FnExactUndoStep', WHERE WHAT IT READS IS OF BULK AT MOST 1048576: true; the input reads as it did. -/
def fnExactUndoStepUptoRow : OpenClaim := { program := "ytmmohnbmoilaaaa", sum := "543a93dc6da933bbf8aff39165d5c30bdec627130a3d3b98f891d41d869dcc3c", func := "loop.example/g03305/laws.FnExactUndoStep", spec := "fnExactUndoStep", inPlace := ["internal/bytealg.CountString", "internal/bytealg.IndexByteString", "internal/bytealg.IndexString"], unfollowed := true, recurses := true, named := ["internal/bytealg.MaxLen"], apart := false, narrowed := true }
def FnExactUndoStepUptoSaid : Prop := fnExactUndoStepUptoRow.holds Try.pinned (OpenSpec.upto fnExactUndoStepSpec)

/-- 'laws.FnExactAddItem', WHERE WHAT IT READS IS OF BULK AT MOST 1048576: true; the input reads as it did. -/
def fnExactAddItemUptoRow : OpenClaim := { program := "ytmmohnbmoilaaaa", sum := "543a93dc6da933bbf8aff39165d5c30bdec627130a3d3b98f891d41d869dcc3c", func := "loop.example/g03305/laws.FnExactAddItem", spec := "fnExactAddItem", inPlace := ["slices.overlaps[loop.example/g03305/impl.Item]", "internal/bytealg.CountString", "internal/bytealg.IndexByteString", "internal/bytealg.IndexString"], named := ["internal/bytealg.MaxLen"], apart := false, narrowed := true }
def FnExactAddItemUptoSaid : Prop := fnExactAddItemUptoRow.holds Try.pinned (OpenSpec.upto fnExactAddItemSpec)

/-- 'laws.FnExactDropItem', WHERE WHAT IT READS IS OF BULK AT MOST 1048576: true; the input reads as it did. -/
def fnExactDropItemUptoRow : OpenClaim := { program := "ytmmohnbmoilaaaa", sum := "543a93dc6da933bbf8aff39165d5c30bdec627130a3d3b98f891d41d869dcc3c", func := "loop.example/g03305/laws.FnExactDropItem", spec := "fnExactDropItem", inPlace := ["internal/bytealg.CountString", "internal/bytealg.IndexByteString", "internal/bytealg.IndexString"], unfollowed := true, recurses := true, named := ["internal/bytealg.MaxLen"], apart := false, narrowed := true }
def FnExactDropItemUptoSaid : Prop := fnExactDropItemUptoRow.holds Try.pinned (OpenSpec.upto fnExactDropItemSpec)

/-- 'laws.FnExactCardNamed', WHERE WHAT IT READS IS OF BULK AT MOST 1048576: true; the input reads as it did. -/
def fnExactCardNamedUptoRow : OpenClaim := { program := "ytmmohnbmoilaaaa", sum := "543a93dc6da933bbf8aff39165d5c30bdec627130a3d3b98f891d41d869dcc3c", func := "loop.example/g03305/laws.FnExactCardNamed", spec := "fnExactCardNamed", inPlace := ["internal/bytealg.CountString", "internal/bytealg.IndexByteString", "internal/bytealg.IndexString"], unfollowed := true, recurses := true, named := ["internal/bytealg.MaxLen"], apart := false, narrowed := true }
def FnExactCardNamedUptoSaid : Prop := fnExactCardNamedUptoRow.holds Try.pinned (OpenSpec.upto fnExactCardNamedSpec)

/-- 'laws.FnExactTwinsIn', WHERE WHAT IT READS IS OF BULK AT MOST 1048576: true; the input reads as it did. -/
def fnExactTwinsInUptoRow : OpenClaim := { program := "ytmmohnbmoilaaaa", sum := "543a93dc6da933bbf8aff39165d5c30bdec627130a3d3b98f891d41d869dcc3c", func := "loop.example/g03305/laws.FnExactTwinsIn", spec := "fnExactTwinsIn", inPlace := ["internal/bytealg.CountString", "internal/bytealg.IndexByteString", "internal/bytealg.IndexString"], named := ["internal/bytealg.MaxLen"], apart := false, narrowed := true }
def FnExactTwinsInUptoSaid : Prop := fnExactTwinsInUptoRow.holds Try.pinned (OpenSpec.upto fnExactTwinsInSpec)

/-- 'laws.FnExactSymmetrizeCard', WHERE WHAT IT READS IS OF BULK AT MOST 1048576: true; the input reads as it did. -/
def fnExactSymmetrizeCardUptoRow : OpenClaim := { program := "ytmmohnbmoilaaaa", sum := "543a93dc6da933bbf8aff39165d5c30bdec627130a3d3b98f891d41d869dcc3c", func := "loop.example/g03305/laws.FnExactSymmetrizeCard", spec := "fnExactSymmetrizeCard", inPlace := ["internal/bytealg.CountString", "internal/bytealg.IndexByteString", "internal/bytealg.IndexString"], unfollowed := true, recurses := true, named := ["internal/bytealg.MaxLen"], apart := false, narrowed := true }
def FnExactSymmetrizeCardUptoSaid : Prop := fnExactSymmetrizeCardUptoRow.holds Try.pinned (OpenSpec.upto fnExactSymmetrizeCardSpec)

/-- 'laws.FnExactPutStrip', WHERE WHAT IT READS IS OF BULK AT MOST 1048576: true; the input reads as it did. -/
def fnExactPutStripUptoRow : OpenClaim := { program := "ytmmohnbmoilaaaa", sum := "543a93dc6da933bbf8aff39165d5c30bdec627130a3d3b98f891d41d869dcc3c", func := "loop.example/g03305/laws.FnExactPutStrip", spec := "fnExactPutStrip", inPlace := ["internal/bytealg.CountString", "internal/bytealg.IndexByteString", "internal/bytealg.IndexString", "slices.overlaps[string]"], named := ["internal/bytealg.MaxLen"], apart := false, narrowed := true }
def FnExactPutStripUptoSaid : Prop := fnExactPutStripUptoRow.holds Try.pinned (OpenSpec.upto fnExactPutStripSpec)

/-- 'laws.FnExactOpenCopy', WHERE WHAT IT READS IS OF BULK AT MOST 1048576: true; the input reads as it did. -/
def fnExactOpenCopyUptoRow : OpenClaim := { program := "ytmmohnbmoilaaaa", sum := "543a93dc6da933bbf8aff39165d5c30bdec627130a3d3b98f891d41d869dcc3c", func := "loop.example/g03305/laws.FnExactOpenCopy", spec := "fnExactOpenCopy", inPlace := ["internal/bytealg.CountString", "internal/bytealg.IndexByteString", "internal/bytealg.IndexString"], named := ["internal/bytealg.MaxLen"], apart := false, narrowed := true }
def FnExactOpenCopyUptoSaid : Prop := fnExactOpenCopyUptoRow.holds Try.pinned (OpenSpec.upto fnExactOpenCopySpec)

/-- 'laws.FnExactExtraCost', WHERE WHAT IT READS IS OF BULK AT MOST 1048576: true; the input reads as it did. -/
def fnExactExtraCostUptoRow : OpenClaim := { program := "ytmmohnbmoilaaaa", sum := "543a93dc6da933bbf8aff39165d5c30bdec627130a3d3b98f891d41d869dcc3c", func := "loop.example/g03305/laws.FnExactExtraCost", spec := "fnExactExtraCost", inPlace := ["internal/bytealg.CountString", "internal/bytealg.IndexByteString", "internal/bytealg.IndexString"], unfollowed := true, recurses := true, named := ["internal/bytealg.MaxLen"], apart := false, narrowed := true }
def FnExactExtraCostUptoSaid : Prop := fnExactExtraCostUptoRow.holds Try.pinned (OpenSpec.upto fnExactExtraCostSpec)

/-- 'laws.FnSides', WHERE WHAT IT READS IS OF BULK AT MOST 1048576: true; the input reads as it did. -/
def fnSidesUptoRow : OpenClaim := { program := "ytmmohnbmoilaaaa", sum := "543a93dc6da933bbf8aff39165d5c30bdec627130a3d3b98f891d41d869dcc3c", func := "loop.example/g03305/laws.FnSides", spec := "fnSides", inPlace := ["internal/bytealg.CountString", "internal/bytealg.IndexByteString", "internal/bytealg.IndexString"], unfollowed := true, recurses := true, named := ["internal/bytealg.MaxLen"], apart := false, narrowed := true }
def FnSidesUptoSaid : Prop := fnSidesUptoRow.holds Try.pinned (OpenSpec.upto fnSidesSpec)

/-- 'laws.FnLikeness', WHERE WHAT IT READS IS OF BULK AT MOST 1048576: true; the input reads as it did. -/
def fnLikenessUptoRow : OpenClaim := { program := "ytmmohnbmoilaaaa", sum := "543a93dc6da933bbf8aff39165d5c30bdec627130a3d3b98f891d41d869dcc3c", func := "loop.example/g03305/laws.FnLikeness", spec := "fnLikeness", inPlace := ["internal/bytealg.CountString", "internal/bytealg.IndexByteString", "internal/bytealg.IndexString"], unfollowed := true, recurses := true, named := ["internal/bytealg.MaxLen"], apart := false, narrowed := true }
def FnLikenessUptoSaid : Prop := fnLikenessUptoRow.holds Try.pinned (OpenSpec.upto fnLikenessSpec)

end Rows
end Go.Proofs.Ytmmohnbmoilaaaa
