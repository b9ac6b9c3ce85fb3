/-
  No cell of these rows narrows 'for every input' (looked for: loops, veiled, ifaces, maps, wideKeys, modest, calm, conditions, laid).
  DERIVED. THE GIVEN ROWS OF THIS SEAT. 12 by the template 'for every input the law returns true; each argument reads behind the call as it read before'; 0 by the template 'total and deterministic' (their statements: YtdddglihomchfaaGreatTotals.lean).
  GIVEN WITH THE SEED: the statements are not yours to turn. If you find one false, say at which input.
  Laid BY PROGRAM, IN A SANDBOX (cutbox-rows.mjs): the forced cells as the released guide's own fill.sh prints them over the translation f0388da508e8f055… (all of the seat's roots in one cut). By AI agents, Wed Nov 11 2026. No macro, syntax, notation, axiom, sorry.
-/
import Derived.Test.YtdddglihomchfaaGreatChecked
import GoSem.Claim
import GoSem.ClaimJoined
import GoSem.ClaimMapViews
import Derived.JoinedTies
import Derived.KernelRfl
namespace Go.Proofs.YtdddglihomchfaaGreat
/- THE CELL 'sum', in the pinned program and in every row, IS THE sha256 OF THE DUMP (.gsa) THAT YtdddglihomchfaaGreatProg.lean LOADS. Nothing in Lean hashes anything: it is a label: what it is worth is what the hold of that sum in a sandbox is worth. -/
noncomputable def Tryz.pinned : Pinned := { name := "ytdddglihomchfaagreat", sum := "f0388da508e8f055703929ed64f06feed28a4edb44e48884281fb4270a4fdeaa", checked := Tryz.checked }
namespace Rows
def none {H : Type} : Left H := { results := [], args := [] }

/-- 'laws.FnExactWorkshopOk': WHATEVER THE INPUT: true; the input reads as it did. -/
def fnExactWorkshopOkSpec : ChangeSpec := { name := "fnExactWorkshopOk", fn := fun _ => fun
  | [d] => { results := [.lit (.bool true)], args := [d] }
  | _ => none }
def fnExactWorkshopOkRow : OpenClaim := { program := "ytdddglihomchfaagreat", sum := "f0388da508e8f055703929ed64f06feed28a4edb44e48884281fb4270a4fdeaa", func := "loop.example/g03305/laws.FnExactWorkshopOk", spec := "fnExactWorkshopOk", inPlace := ["internal/bytealg.CountString", "internal/bytealg.IndexByteString", "internal/bytealg.IndexString"], unfollowed := true, recurses := true, named := ["internal/bytealg.MaxLen"], apart := false }
def FnExactWorkshopOkSaid : Prop := fnExactWorkshopOkRow.holds Tryz.pinned (OpenSpec.ofChange fnExactWorkshopOkSpec)

/-- ITS FALSE NEIGHBOUR: 'it returns false'. Refute it at one input. -/
def fnExactWorkshopOkWrong : ChangeSpec := { name := "fnExactWorkshopOk", fn := fun _ => fun
  | [d] => { results := [.lit (.bool false)], args := [d] }
  | _ => none }
def FnExactWorkshopOkWrongFalsely : Prop := fnExactWorkshopOkRow.holds Tryz.pinned (OpenSpec.ofChange fnExactWorkshopOkWrong)

/-- 'laws.FnExactOpenWorkshop': WHATEVER THE INPUT: true; the input reads as it did. -/
def fnExactOpenWorkshopSpec : ChangeSpec := { name := "fnExactOpenWorkshop", fn := fun _ => fun
  | [d1, d2] => { results := [.lit (.bool true)], args := [d1, d2] }
  | _ => none }
def fnExactOpenWorkshopRow : OpenClaim := { program := "ytdddglihomchfaagreat", sum := "f0388da508e8f055703929ed64f06feed28a4edb44e48884281fb4270a4fdeaa", func := "loop.example/g03305/laws.FnExactOpenWorkshop", spec := "fnExactOpenWorkshop", inPlace := ["internal/bytealg.CountString", "internal/bytealg.IndexByteString", "internal/bytealg.IndexString"], unfollowed := true, recurses := true, named := ["internal/bytealg.MaxLen"], apart := false }
def FnExactOpenWorkshopSaid : Prop := fnExactOpenWorkshopRow.holds Tryz.pinned (OpenSpec.ofChange fnExactOpenWorkshopSpec)

/-- ITS FALSE NEIGHBOUR: 'it returns false'. Refute it at one input. -/
def fnExactOpenWorkshopWrong : ChangeSpec := { name := "fnExactOpenWorkshop", fn := fun _ => fun
  | [d1, d2] => { results := [.lit (.bool false)], args := [d1, d2] }
  | _ => none }
def FnExactOpenWorkshopWrongFalsely : Prop := fnExactOpenWorkshopRow.holds Tryz.pinned (OpenSpec.ofChange fnExactOpenWorkshopWrong)

/-- 'laws.FnExactSampleWorkshop': WHATEVER THE INPUT: true; the input reads as it did. -/
def fnExactSampleWorkshopSpec : ChangeSpec := { name := "fnExactSampleWorkshop", fn := fun _ => fun
  | [] => { results := [.lit (.bool true)], args := [] }
  | _ => none }
def fnExactSampleWorkshopRow : OpenClaim := { program := "ytdddglihomchfaagreat", sum := "f0388da508e8f055703929ed64f06feed28a4edb44e48884281fb4270a4fdeaa", func := "loop.example/g03305/laws.FnExactSampleWorkshop", spec := "fnExactSampleWorkshop", inPlace := ["internal/bytealg.CountString", "internal/bytealg.IndexByteString", "internal/bytealg.IndexString"], unfollowed := true, recurses := true, named := ["internal/bytealg.MaxLen"], apart := false }
def FnExactSampleWorkshopSaid : Prop := fnExactSampleWorkshopRow.holds Tryz.pinned (OpenSpec.ofChange fnExactSampleWorkshopSpec)

/-- ITS FALSE NEIGHBOUR: 'it returns false'. Refute it at one input. -/
def fnExactSampleWorkshopWrong : ChangeSpec := { name := "fnExactSampleWorkshop", fn := fun _ => fun
  | [] => { results := [.lit (.bool false)], args := [] }
  | _ => none }
def FnExactSampleWorkshopWrongFalsely : Prop := fnExactSampleWorkshopRow.holds Tryz.pinned (OpenSpec.ofChange fnExactSampleWorkshopWrong)

/-- 'laws.FnExactBuyPaper': WHATEVER THE INPUT: true; the input reads as it did. -/
def fnExactBuyPaperSpec : ChangeSpec := { name := "fnExactBuyPaper", fn := fun _ => fun
  | [d1, d2, d3] => { results := [.lit (.bool true)], args := [d1, d2, d3] }
  | _ => none }
def fnExactBuyPaperRow : OpenClaim := { program := "ytdddglihomchfaagreat", sum := "f0388da508e8f055703929ed64f06feed28a4edb44e48884281fb4270a4fdeaa", func := "loop.example/g03305/laws.FnExactBuyPaper", spec := "fnExactBuyPaper", inPlace := ["internal/bytealg.CountString", "internal/bytealg.IndexByteString", "internal/bytealg.IndexString"], unfollowed := true, recurses := true, named := ["internal/bytealg.MaxLen"], apart := false }
def FnExactBuyPaperSaid : Prop := fnExactBuyPaperRow.holds Tryz.pinned (OpenSpec.ofChange fnExactBuyPaperSpec)

/-- ITS FALSE NEIGHBOUR: 'it returns false'. Refute it at one input. -/
def fnExactBuyPaperWrong : ChangeSpec := { name := "fnExactBuyPaper", fn := fun _ => fun
  | [d1, d2, d3] => { results := [.lit (.bool false)], args := [d1, d2, d3] }
  | _ => none }
def FnExactBuyPaperWrongFalsely : Prop := fnExactBuyPaperRow.holds Tryz.pinned (OpenSpec.ofChange fnExactBuyPaperWrong)

/-- 'laws.FnExactShape': WHATEVER THE INPUT: true; the input reads as it did. -/
def fnExactShapeSpec : ChangeSpec := { name := "fnExactShape", fn := fun _ => fun
  | [d1, d2] => { results := [.lit (.bool true)], args := [d1, d2] }
  | _ => none }
def fnExactShapeRow : OpenClaim := { program := "ytdddglihomchfaagreat", sum := "f0388da508e8f055703929ed64f06feed28a4edb44e48884281fb4270a4fdeaa", func := "loop.example/g03305/laws.FnExactShape", spec := "fnExactShape", inPlace := ["internal/bytealg.CountString", "internal/bytealg.IndexByteString", "internal/bytealg.IndexString"], unfollowed := true, recurses := true, named := ["internal/bytealg.MaxLen"], apart := false }
def FnExactShapeSaid : Prop := fnExactShapeRow.holds Tryz.pinned (OpenSpec.ofChange fnExactShapeSpec)

/-- ITS FALSE NEIGHBOUR: 'it returns false'. Refute it at one input. -/
def fnExactShapeWrong : ChangeSpec := { name := "fnExactShape", fn := fun _ => fun
  | [d1, d2] => { results := [.lit (.bool false)], args := [d1, d2] }
  | _ => none }
def FnExactShapeWrongFalsely : Prop := fnExactShapeRow.holds Tryz.pinned (OpenSpec.ofChange fnExactShapeWrong)

/-- 'laws.FnExactUnshape': WHATEVER THE INPUT: true; the input reads as it did. -/
def fnExactUnshapeSpec : ChangeSpec := { name := "fnExactUnshape", fn := fun _ => fun
  | [d] => { results := [.lit (.bool true)], args := [d] }
  | _ => none }
def fnExactUnshapeRow : OpenClaim := { program := "ytdddglihomchfaagreat", sum := "f0388da508e8f055703929ed64f06feed28a4edb44e48884281fb4270a4fdeaa", func := "loop.example/g03305/laws.FnExactUnshape", spec := "fnExactUnshape", inPlace := ["internal/bytealg.CountString", "internal/bytealg.IndexByteString", "internal/bytealg.IndexString"], unfollowed := true, recurses := true, named := ["internal/bytealg.MaxLen"], apart := false }
def FnExactUnshapeSaid : Prop := fnExactUnshapeRow.holds Tryz.pinned (OpenSpec.ofChange fnExactUnshapeSpec)

/-- ITS FALSE NEIGHBOUR: 'it returns false'. Refute it at one input. -/
def fnExactUnshapeWrong : ChangeSpec := { name := "fnExactUnshape", fn := fun _ => fun
  | [d] => { results := [.lit (.bool false)], args := [d] }
  | _ => none }
def FnExactUnshapeWrongFalsely : Prop := fnExactUnshapeRow.holds Tryz.pinned (OpenSpec.ofChange fnExactUnshapeWrong)

/-- 'laws.FnExactForgetCard': WHATEVER THE INPUT: true; the input reads as it did. -/
def fnExactForgetCardSpec : ChangeSpec := { name := "fnExactForgetCard", fn := fun _ => fun
  | [d1, d2] => { results := [.lit (.bool true)], args := [d1, d2] }
  | _ => none }
def fnExactForgetCardRow : OpenClaim := { program := "ytdddglihomchfaagreat", sum := "f0388da508e8f055703929ed64f06feed28a4edb44e48884281fb4270a4fdeaa", func := "loop.example/g03305/laws.FnExactForgetCard", spec := "fnExactForgetCard", inPlace := ["internal/bytealg.CountString", "internal/bytealg.IndexByteString", "internal/bytealg.IndexString"], unfollowed := true, recurses := true, named := ["internal/bytealg.MaxLen"], apart := false }
def FnExactForgetCardSaid : Prop := fnExactForgetCardRow.holds Tryz.pinned (OpenSpec.ofChange fnExactForgetCardSpec)

/-- ITS FALSE NEIGHBOUR: 'it returns false'. Refute it at one input. -/
def fnExactForgetCardWrong : ChangeSpec := { name := "fnExactForgetCard", fn := fun _ => fun
  | [d1, d2] => { results := [.lit (.bool false)], args := [d1, d2] }
  | _ => none }
def FnExactForgetCardWrongFalsely : Prop := fnExactForgetCardRow.holds Tryz.pinned (OpenSpec.ofChange fnExactForgetCardWrong)

/-- 'laws.FnExactMakeCopies': WHATEVER THE INPUT: true; the input reads as it did. -/
def fnExactMakeCopiesSpec : ChangeSpec := { name := "fnExactMakeCopies", fn := fun _ => fun
  | [d1, d2, d3, d4] => { results := [.lit (.bool true)], args := [d1, d2, d3, d4] }
  | _ => none }
def fnExactMakeCopiesRow : OpenClaim := { program := "ytdddglihomchfaagreat", sum := "f0388da508e8f055703929ed64f06feed28a4edb44e48884281fb4270a4fdeaa", func := "loop.example/g03305/laws.FnExactMakeCopies", spec := "fnExactMakeCopies", inPlace := ["internal/bytealg.CountString", "internal/bytealg.IndexByteString", "internal/bytealg.IndexString"], unfollowed := true, recurses := true, named := ["internal/bytealg.MaxLen"], apart := false }
def FnExactMakeCopiesSaid : Prop := fnExactMakeCopiesRow.holds Tryz.pinned (OpenSpec.ofChange fnExactMakeCopiesSpec)

/-- ITS FALSE NEIGHBOUR: 'it returns false'. Refute it at one input. -/
def fnExactMakeCopiesWrong : ChangeSpec := { name := "fnExactMakeCopies", fn := fun _ => fun
  | [d1, d2, d3, d4] => { results := [.lit (.bool false)], args := [d1, d2, d3, d4] }
  | _ => none }
def FnExactMakeCopiesWrongFalsely : Prop := fnExactMakeCopiesRow.holds Tryz.pinned (OpenSpec.ofChange fnExactMakeCopiesWrong)

/-- 'laws.FnExactKeepCard': WHATEVER THE INPUT: true; the input reads as it did. -/
def fnExactKeepCardSpec : ChangeSpec := { name := "fnExactKeepCard", fn := fun _ => fun
  | [d1, d2] => { results := [.lit (.bool true)], args := [d1, d2] }
  | _ => none }
def fnExactKeepCardRow : OpenClaim := { program := "ytdddglihomchfaagreat", sum := "f0388da508e8f055703929ed64f06feed28a4edb44e48884281fb4270a4fdeaa", func := "loop.example/g03305/laws.FnExactKeepCard", spec := "fnExactKeepCard", inPlace := ["slices.overlaps[loop.example/g03305/impl.Item]", "internal/bytealg.CountString", "internal/bytealg.IndexByteString", "internal/bytealg.IndexString"], unfollowed := true, recurses := true, named := ["internal/bytealg.MaxLen"], apart := false }
def FnExactKeepCardSaid : Prop := fnExactKeepCardRow.holds Tryz.pinned (OpenSpec.ofChange fnExactKeepCardSpec)

/-- ITS FALSE NEIGHBOUR: 'it returns false'. Refute it at one input. -/
def fnExactKeepCardWrong : ChangeSpec := { name := "fnExactKeepCard", fn := fun _ => fun
  | [d1, d2] => { results := [.lit (.bool false)], args := [d1, d2] }
  | _ => none }
def FnExactKeepCardWrongFalsely : Prop := fnExactKeepCardRow.holds Tryz.pinned (OpenSpec.ofChange fnExactKeepCardWrong)

/-- 'laws.FnExactDoAct': WHATEVER THE INPUT: true; the input reads as it did. -/
def fnExactDoActSpec : ChangeSpec := { name := "fnExactDoAct", fn := fun _ => fun
  | [d1, d2] => { results := [.lit (.bool true)], args := [d1, d2] }
  | _ => none }
def fnExactDoActRow : OpenClaim := { program := "ytdddglihomchfaagreat", sum := "f0388da508e8f055703929ed64f06feed28a4edb44e48884281fb4270a4fdeaa", func := "loop.example/g03305/laws.FnExactDoAct", spec := "fnExactDoAct", inPlace := ["internal/bytealg.CountString", "internal/bytealg.IndexByteString", "internal/bytealg.IndexString", "slices.overlaps[loop.example/g03305/impl.Item]"], unfollowed := true, recurses := true, named := ["internal/bytealg.MaxLen"], apart := false }
def FnExactDoActSaid : Prop := fnExactDoActRow.holds Tryz.pinned (OpenSpec.ofChange fnExactDoActSpec)

/-- ITS FALSE NEIGHBOUR: 'it returns false'. Refute it at one input. -/
def fnExactDoActWrong : ChangeSpec := { name := "fnExactDoAct", fn := fun _ => fun
  | [d1, d2] => { results := [.lit (.bool false)], args := [d1, d2] }
  | _ => none }
def FnExactDoActWrongFalsely : Prop := fnExactDoActRow.holds Tryz.pinned (OpenSpec.ofChange fnExactDoActWrong)

/-- 'laws.FnExactRunActs': WHATEVER THE INPUT: true; the input reads as it did. -/
def fnExactRunActsSpec : ChangeSpec := { name := "fnExactRunActs", fn := fun _ => fun
  | [d1, d2] => { results := [.lit (.bool true)], args := [d1, d2] }
  | _ => none }
def fnExactRunActsRow : OpenClaim := { program := "ytdddglihomchfaagreat", sum := "f0388da508e8f055703929ed64f06feed28a4edb44e48884281fb4270a4fdeaa", func := "loop.example/g03305/laws.FnExactRunActs", spec := "fnExactRunActs", inPlace := ["internal/bytealg.CountString", "internal/bytealg.IndexByteString", "internal/bytealg.IndexString", "slices.overlaps[loop.example/g03305/impl.Item]"], unfollowed := true, recurses := true, named := ["internal/bytealg.MaxLen"], apart := false }
def FnExactRunActsSaid : Prop := fnExactRunActsRow.holds Tryz.pinned (OpenSpec.ofChange fnExactRunActsSpec)

/-- ITS FALSE NEIGHBOUR: 'it returns false'. Refute it at one input. -/
def fnExactRunActsWrong : ChangeSpec := { name := "fnExactRunActs", fn := fun _ => fun
  | [d1, d2] => { results := [.lit (.bool false)], args := [d1, d2] }
  | _ => none }
def FnExactRunActsWrongFalsely : Prop := fnExactRunActsRow.holds Tryz.pinned (OpenSpec.ofChange fnExactRunActsWrong)

/-- 'laws.FnExactIsReplay': WHATEVER THE INPUT: true; the input reads as it did. -/
def fnExactIsReplaySpec : ChangeSpec := { name := "fnExactIsReplay", fn := fun _ => fun
  | [d1, d2, d3] => { results := [.lit (.bool true)], args := [d1, d2, d3] }
  | _ => none }
def fnExactIsReplayRow : OpenClaim := { program := "ytdddglihomchfaagreat", sum := "f0388da508e8f055703929ed64f06feed28a4edb44e48884281fb4270a4fdeaa", func := "loop.example/g03305/laws.FnExactIsReplay", spec := "fnExactIsReplay", inPlace := ["internal/bytealg.CountString", "internal/bytealg.IndexByteString", "internal/bytealg.IndexString", "slices.overlaps[loop.example/g03305/impl.Item]"], unfollowed := true, recurses := true, named := ["internal/bytealg.MaxLen"], apart := false }
def FnExactIsReplaySaid : Prop := fnExactIsReplayRow.holds Tryz.pinned (OpenSpec.ofChange fnExactIsReplaySpec)

/-- ITS FALSE NEIGHBOUR: 'it returns false'. Refute it at one input. -/
def fnExactIsReplayWrong : ChangeSpec := { name := "fnExactIsReplay", fn := fun _ => fun
  | [d1, d2, d3] => { results := [.lit (.bool false)], args := [d1, d2, d3] }
  | _ => none }
def FnExactIsReplayWrongFalsely : Prop := fnExactIsReplayRow.holds Tryz.pinned (OpenSpec.ofChange fnExactIsReplayWrong)

/- THE SECOND FORM. 'bulk': how many values and letters a reading holds, each counted each time it is reached (what is shared counts as often as it is met; a slice's spare places count too). A statement '..UptoSaid' is the law's where the arguments, and the package variables that the reading takes, are together of bulk at most 1048576: NARROWER than '..Said'. Prove '..Said' where nothing that the law and all that it calls make is longer than what came in: it says more and counts as full. Else prove '..UptoSaid'. A law counts once. -/
mutual
def uptoBulk {H : Type} : DataW H → Nat
  | .lit (.string bytes) => bytes.length + 1
  | .lit _ => 1
  | .nil => 1
  | .ptr d => uptoBulk d + 1
  | .slice elems spare => uptoBulkAll elems + uptoBulkAll spare + 1
  | .agg parts => uptoBulkAll parts + 1
  | .iface _ d => uptoBulk d + 1
  | .map entries => uptoBulkEntries entries + 1
  | .held _ => 1
def uptoBulkAll {H : Type} : List (DataW H) → Nat
  | [] => 0
  | d :: r => uptoBulk d + uptoBulkAll r
def uptoBulkEntries {H : Type} : List (Lit × DataW H) → Nat
  | [] => 0
  | x :: r => uptoBulkEntry x + uptoBulkEntries r
def uptoBulkEntry {H : Type} : Lit × DataW H → Nat
  | (.string bytes, d) => bytes.length + uptoBulk d + 1
  | (_, d) => uptoBulk d + 1
 end
def uptoSmall : (H : Type) → List (DataW H) → Bool := fun _ ds => decide (uptoBulkAll ds ≤ 1048576)
def OpenSpec.upto (s : _root_.Go.ChangeSpec) : _root_.Go.OpenSpec := { _root_.Go.OpenSpec.ofChange s with cond := some uptoSmall }

/-- 'laws.FnExactWorkshopOk', WHERE WHAT IT READS IS OF BULK AT MOST 1048576: true; the input reads as it did. -/
def fnExactWorkshopOkUptoRow : OpenClaim := { program := "ytdddglihomchfaagreat", sum := "f0388da508e8f055703929ed64f06feed28a4edb44e48884281fb4270a4fdeaa", func := "loop.example/g03305/laws.FnExactWorkshopOk", spec := "fnExactWorkshopOk", inPlace := ["internal/bytealg.CountString", "internal/bytealg.IndexByteString", "internal/bytealg.IndexString"], unfollowed := true, recurses := true, named := ["internal/bytealg.MaxLen"], apart := false, narrowed := true }
def FnExactWorkshopOkUptoSaid : Prop := fnExactWorkshopOkUptoRow.holds Tryz.pinned (OpenSpec.upto fnExactWorkshopOkSpec)

/-- 'laws.FnExactOpenWorkshop', WHERE WHAT IT READS IS OF BULK AT MOST 1048576: true; the input reads as it did. -/
def fnExactOpenWorkshopUptoRow : OpenClaim := { program := "ytdddglihomchfaagreat", sum := "f0388da508e8f055703929ed64f06feed28a4edb44e48884281fb4270a4fdeaa", func := "loop.example/g03305/laws.FnExactOpenWorkshop", spec := "fnExactOpenWorkshop", inPlace := ["internal/bytealg.CountString", "internal/bytealg.IndexByteString", "internal/bytealg.IndexString"], unfollowed := true, recurses := true, named := ["internal/bytealg.MaxLen"], apart := false, narrowed := true }
def FnExactOpenWorkshopUptoSaid : Prop := fnExactOpenWorkshopUptoRow.holds Tryz.pinned (OpenSpec.upto fnExactOpenWorkshopSpec)

/-- 'laws.FnExactSampleWorkshop', WHERE WHAT IT READS IS OF BULK AT MOST 1048576: true; the input reads as it did. -/
def fnExactSampleWorkshopUptoRow : OpenClaim := { program := "ytdddglihomchfaagreat", sum := "f0388da508e8f055703929ed64f06feed28a4edb44e48884281fb4270a4fdeaa", func := "loop.example/g03305/laws.FnExactSampleWorkshop", spec := "fnExactSampleWorkshop", inPlace := ["internal/bytealg.CountString", "internal/bytealg.IndexByteString", "internal/bytealg.IndexString"], unfollowed := true, recurses := true, named := ["internal/bytealg.MaxLen"], apart := false, narrowed := true }
def FnExactSampleWorkshopUptoSaid : Prop := fnExactSampleWorkshopUptoRow.holds Tryz.pinned (OpenSpec.upto fnExactSampleWorkshopSpec)

/-- 'laws.FnExactBuyPaper', WHERE WHAT IT READS IS OF BULK AT MOST 1048576: true; the input reads as it did. -/
def fnExactBuyPaperUptoRow : OpenClaim := { program := "ytdddglihomchfaagreat", sum := "f0388da508e8f055703929ed64f06feed28a4edb44e48884281fb4270a4fdeaa", func := "loop.example/g03305/laws.FnExactBuyPaper", spec := "fnExactBuyPaper", inPlace := ["internal/bytealg.CountString", "internal/bytealg.IndexByteString", "internal/bytealg.IndexString"], unfollowed := true, recurses := true, named := ["internal/bytealg.MaxLen"], apart := false, narrowed := true }
def FnExactBuyPaperUptoSaid : Prop := fnExactBuyPaperUptoRow.holds Tryz.pinned (OpenSpec.upto fnExactBuyPaperSpec)

/-- 'laws.FnExactShape', WHERE WHAT IT READS IS OF BULK AT MOST 1048576: true; the input reads as it did. -/
def fnExactShapeUptoRow : OpenClaim := { program := "ytdddglihomchfaagreat", sum := "f0388da508e8f055703929ed64f06feed28a4edb44e48884281fb4270a4fdeaa", func := "loop.example/g03305/laws.FnExactShape", spec := "fnExactShape", inPlace := ["internal/bytealg.CountString", "internal/bytealg.IndexByteString", "internal/bytealg.IndexString"], unfollowed := true, recurses := true, named := ["internal/bytealg.MaxLen"], apart := false, narrowed := true }
def FnExactShapeUptoSaid : Prop := fnExactShapeUptoRow.holds Tryz.pinned (OpenSpec.upto fnExactShapeSpec)

/-- 'laws.FnExactUnshape', WHERE WHAT IT READS IS OF BULK AT MOST 1048576: true; the input reads as it did. -/
def fnExactUnshapeUptoRow : OpenClaim := { program := "ytdddglihomchfaagreat", sum := "f0388da508e8f055703929ed64f06feed28a4edb44e48884281fb4270a4fdeaa", func := "loop.example/g03305/laws.FnExactUnshape", spec := "fnExactUnshape", inPlace := ["internal/bytealg.CountString", "internal/bytealg.IndexByteString", "internal/bytealg.IndexString"], unfollowed := true, recurses := true, named := ["internal/bytealg.MaxLen"], apart := false, narrowed := true }
def FnExactUnshapeUptoSaid : Prop := fnExactUnshapeUptoRow.holds Tryz.pinned (OpenSpec.upto fnExactUnshapeSpec)

/-- 'laws.FnExactForgetCard', WHERE WHAT IT READS IS OF BULK AT MOST 1048576: true; the input reads as it did. -/
def fnExactForgetCardUptoRow : OpenClaim := { program := "ytdddglihomchfaagreat", sum := "f0388da508e8f055703929ed64f06feed28a4edb44e48884281fb4270a4fdeaa", func := "loop.example/g03305/laws.FnExactForgetCard", spec := "fnExactForgetCard", inPlace := ["internal/bytealg.CountString", "internal/bytealg.IndexByteString", "internal/bytealg.IndexString"], unfollowed := true, recurses := true, named := ["internal/bytealg.MaxLen"], apart := false, narrowed := true }
def FnExactForgetCardUptoSaid : Prop := fnExactForgetCardUptoRow.holds Tryz.pinned (OpenSpec.upto fnExactForgetCardSpec)

/-- 'laws.FnExactMakeCopies', WHERE WHAT IT READS IS OF BULK AT MOST 1048576: true; the input reads as it did. -/
def fnExactMakeCopiesUptoRow : OpenClaim := { program := "ytdddglihomchfaagreat", sum := "f0388da508e8f055703929ed64f06feed28a4edb44e48884281fb4270a4fdeaa", func := "loop.example/g03305/laws.FnExactMakeCopies", spec := "fnExactMakeCopies", inPlace := ["internal/bytealg.CountString", "internal/bytealg.IndexByteString", "internal/bytealg.IndexString"], unfollowed := true, recurses := true, named := ["internal/bytealg.MaxLen"], apart := false, narrowed := true }
def FnExactMakeCopiesUptoSaid : Prop := fnExactMakeCopiesUptoRow.holds Tryz.pinned (OpenSpec.upto fnExactMakeCopiesSpec)

/-- 'laws.FnExactKeepCard', WHERE WHAT IT READS IS OF BULK AT MOST 1048576: true; the input reads as it did. -/
def fnExactKeepCardUptoRow : OpenClaim := { program := "ytdddglihomchfaagreat", sum := "f0388da508e8f055703929ed64f06feed28a4edb44e48884281fb4270a4fdeaa", func := "loop.example/g03305/laws.FnExactKeepCard", spec := "fnExactKeepCard", inPlace := ["slices.overlaps[loop.example/g03305/impl.Item]", "internal/bytealg.CountString", "internal/bytealg.IndexByteString", "internal/bytealg.IndexString"], unfollowed := true, recurses := true, named := ["internal/bytealg.MaxLen"], apart := false, narrowed := true }
def FnExactKeepCardUptoSaid : Prop := fnExactKeepCardUptoRow.holds Tryz.pinned (OpenSpec.upto fnExactKeepCardSpec)

/-- 'laws.FnExactDoAct', WHERE WHAT IT READS IS OF BULK AT MOST 1048576: true; the input reads as it did. -/
def fnExactDoActUptoRow : OpenClaim := { program := "ytdddglihomchfaagreat", sum := "f0388da508e8f055703929ed64f06feed28a4edb44e48884281fb4270a4fdeaa", func := "loop.example/g03305/laws.FnExactDoAct", spec := "fnExactDoAct", inPlace := ["internal/bytealg.CountString", "internal/bytealg.IndexByteString", "internal/bytealg.IndexString", "slices.overlaps[loop.example/g03305/impl.Item]"], unfollowed := true, recurses := true, named := ["internal/bytealg.MaxLen"], apart := false, narrowed := true }
def FnExactDoActUptoSaid : Prop := fnExactDoActUptoRow.holds Tryz.pinned (OpenSpec.upto fnExactDoActSpec)

/-- 'laws.FnExactRunActs', WHERE WHAT IT READS IS OF BULK AT MOST 1048576: true; the input reads as it did. -/
def fnExactRunActsUptoRow : OpenClaim := { program := "ytdddglihomchfaagreat", sum := "f0388da508e8f055703929ed64f06feed28a4edb44e48884281fb4270a4fdeaa", func := "loop.example/g03305/laws.FnExactRunActs", spec := "fnExactRunActs", inPlace := ["internal/bytealg.CountString", "internal/bytealg.IndexByteString", "internal/bytealg.IndexString", "slices.overlaps[loop.example/g03305/impl.Item]"], unfollowed := true, recurses := true, named := ["internal/bytealg.MaxLen"], apart := false, narrowed := true }
def FnExactRunActsUptoSaid : Prop := fnExactRunActsUptoRow.holds Tryz.pinned (OpenSpec.upto fnExactRunActsSpec)

/-- 'laws.FnExactIsReplay', WHERE WHAT IT READS IS OF BULK AT MOST 1048576: true; the input reads as it did. -/
def fnExactIsReplayUptoRow : OpenClaim := { program := "ytdddglihomchfaagreat", sum := "f0388da508e8f055703929ed64f06feed28a4edb44e48884281fb4270a4fdeaa", func := "loop.example/g03305/laws.FnExactIsReplay", spec := "fnExactIsReplay", inPlace := ["internal/bytealg.CountString", "internal/bytealg.IndexByteString", "internal/bytealg.IndexString", "slices.overlaps[loop.example/g03305/impl.Item]"], unfollowed := true, recurses := true, named := ["internal/bytealg.MaxLen"], apart := false, narrowed := true }
def FnExactIsReplayUptoSaid : Prop := fnExactIsReplayUptoRow.holds Tryz.pinned (OpenSpec.upto fnExactIsReplaySpec)

end Rows
end Go.Proofs.YtdddglihomchfaaGreat
