/-
  No cell of these rows narrows 'for every input' (looked for: loops, veiled, ifaces, maps, wideKeys, modest, calm, conditions, laid).
  DERIVED. THE GIVEN ROWS OF THIS SEAT. 5 by the template 'for every input the law returns true; each argument reads behind the call as it read before'; 0 by the template 'total and deterministic' (their statements: YtfbkapafhaaaoaaTotals.lean).
  GIVEN WITH THE SEED: the statements are not yours to turn. If you find one false, say at which input.
  Laid BY PROGRAM, IN A SANDBOX (cutbox-rows.mjs): the forced cells as the released guide's own fill.sh prints them over the translation 8c6cedc366601a02… (all of the seat's roots in one cut). By AI agents, Wed Nov 11 2026. No macro, syntax, notation, axiom, sorry.
-/
import Derived.Test.YtfbkapafhaaaoaaChecked
import GoSem.Claim
import GoSem.ClaimJoined
import GoSem.ClaimMapViews
import Derived.JoinedTies
import Derived.KernelRfl
namespace Go.Proofs.Ytfbkapafhaaaoaa
/- THE CELL 'sum', in the pinned program and in every row, IS THE sha256 OF THE DUMP (.gsa) THAT YtfbkapafhaaaoaaProg.lean LOADS. Nothing in Lean hashes anything: it is a label: what it is worth is what the hold of that sum in a sandbox is worth. -/
noncomputable def Try.pinned : Pinned := { name := "ytfbkapafhaaaoaa", sum := "8c6cedc366601a028eea1bc86cf42ecf340afcafee69b56da02e1d2a2394dcb8", checked := Try.checked }
namespace Rows
def none {H : Type} : Left H := { results := [], args := [] }

/-- 'laws.FnExactNameFor': WHATEVER THE INPUT: true; the input reads as it did. -/
def fnExactNameForSpec : ChangeSpec := { name := "fnExactNameFor", fn := fun _ => fun
  | [d] => { results := [.lit (.bool true)], args := [d] }
  | _ => none }
def fnExactNameForRow : OpenClaim := { program := "ytfbkapafhaaaoaa", sum := "8c6cedc366601a028eea1bc86cf42ecf340afcafee69b56da02e1d2a2394dcb8", func := "loop.example/g03305/laws.FnExactNameFor", spec := "fnExactNameFor", apart := false }
def FnExactNameForSaid : Prop := fnExactNameForRow.holds Try.pinned (OpenSpec.ofChange fnExactNameForSpec)

/-- ITS FALSE NEIGHBOUR: 'it returns false'. Refute it at one input. -/
def fnExactNameForWrong : ChangeSpec := { name := "fnExactNameFor", fn := fun _ => fun
  | [d] => { results := [.lit (.bool false)], args := [d] }
  | _ => none }
def FnExactNameForWrongFalsely : Prop := fnExactNameForRow.holds Try.pinned (OpenSpec.ofChange fnExactNameForWrong)

/-- 'laws.FnExactActOk': WHATEVER THE INPUT: true; the input reads as it did. -/
def fnExactActOkSpec : ChangeSpec := { name := "fnExactActOk", fn := fun _ => fun
  | [d] => { results := [.lit (.bool true)], args := [d] }
  | _ => none }
def fnExactActOkRow : OpenClaim := { program := "ytfbkapafhaaaoaa", sum := "8c6cedc366601a028eea1bc86cf42ecf340afcafee69b56da02e1d2a2394dcb8", func := "loop.example/g03305/laws.FnExactActOk", spec := "fnExactActOk", apart := false }
def FnExactActOkSaid : Prop := fnExactActOkRow.holds Try.pinned (OpenSpec.ofChange fnExactActOkSpec)

/-- ITS FALSE NEIGHBOUR: 'it returns false'. Refute it at one input. -/
def fnExactActOkWrong : ChangeSpec := { name := "fnExactActOk", fn := fun _ => fun
  | [d] => { results := [.lit (.bool false)], args := [d] }
  | _ => none }
def FnExactActOkWrongFalsely : Prop := fnExactActOkRow.holds Try.pinned (OpenSpec.ofChange fnExactActOkWrong)

/-- 'laws.FnExactMirrorCard': WHATEVER THE INPUT: true; the input reads as it did. -/
def fnExactMirrorCardSpec : ChangeSpec := { name := "fnExactMirrorCard", fn := fun _ => fun
  | [d] => { results := [.lit (.bool true)], args := [d] }
  | _ => none }
def fnExactMirrorCardRow : OpenClaim := { program := "ytfbkapafhaaaoaa", sum := "8c6cedc366601a028eea1bc86cf42ecf340afcafee69b56da02e1d2a2394dcb8", func := "loop.example/g03305/laws.FnExactMirrorCard", spec := "fnExactMirrorCard", inPlace := ["internal/bytealg.CountString", "internal/bytealg.IndexByteString", "internal/bytealg.IndexString"], named := ["internal/bytealg.MaxLen"], apart := false }
def FnExactMirrorCardSaid : Prop := fnExactMirrorCardRow.holds Try.pinned (OpenSpec.ofChange fnExactMirrorCardSpec)

/-- ITS FALSE NEIGHBOUR: 'it returns false'. Refute it at one input. -/
def fnExactMirrorCardWrong : ChangeSpec := { name := "fnExactMirrorCard", fn := fun _ => fun
  | [d] => { results := [.lit (.bool false)], args := [d] }
  | _ => none }
def FnExactMirrorCardWrongFalsely : Prop := fnExactMirrorCardRow.holds Try.pinned (OpenSpec.ofChange fnExactMirrorCardWrong)

/-- 'laws.FnExactWithStrip': WHATEVER THE INPUT: true; the input reads as it did. -/
def fnExactWithStripSpec : ChangeSpec := { name := "fnExactWithStrip", fn := fun _ => fun
  | [d1, d2, d3] => { results := [.lit (.bool true)], args := [d1, d2, d3] }
  | _ => none }
def fnExactWithStripRow : OpenClaim := { program := "ytfbkapafhaaaoaa", sum := "8c6cedc366601a028eea1bc86cf42ecf340afcafee69b56da02e1d2a2394dcb8", func := "loop.example/g03305/laws.FnExactWithStrip", spec := "fnExactWithStrip", inPlace := ["internal/bytealg.CountString", "internal/bytealg.IndexByteString", "internal/bytealg.IndexString"], named := ["internal/bytealg.MaxLen"], apart := false }
def FnExactWithStripSaid : Prop := fnExactWithStripRow.holds Try.pinned (OpenSpec.ofChange fnExactWithStripSpec)

/-- ITS FALSE NEIGHBOUR: 'it returns false'. Refute it at one input. -/
def fnExactWithStripWrong : ChangeSpec := { name := "fnExactWithStrip", fn := fun _ => fun
  | [d1, d2, d3] => { results := [.lit (.bool false)], args := [d1, d2, d3] }
  | _ => none }
def FnExactWithStripWrongFalsely : Prop := fnExactWithStripRow.holds Try.pinned (OpenSpec.ofChange fnExactWithStripWrong)

/-- 'laws.FnExactCutStrip': WHATEVER THE INPUT: true; the input reads as it did. -/
def fnExactCutStripSpec : ChangeSpec := { name := "fnExactCutStrip", fn := fun _ => fun
  | [d1, d2] => { results := [.lit (.bool true)], args := [d1, d2] }
  | _ => none }
def fnExactCutStripRow : OpenClaim := { program := "ytfbkapafhaaaoaa", sum := "8c6cedc366601a028eea1bc86cf42ecf340afcafee69b56da02e1d2a2394dcb8", func := "loop.example/g03305/laws.FnExactCutStrip", spec := "fnExactCutStrip", inPlace := ["internal/bytealg.CountString", "internal/bytealg.IndexByteString", "internal/bytealg.IndexString"], named := ["internal/bytealg.MaxLen"], apart := false }
def FnExactCutStripSaid : Prop := fnExactCutStripRow.holds Try.pinned (OpenSpec.ofChange fnExactCutStripSpec)

/-- ITS FALSE NEIGHBOUR: 'it returns false'. Refute it at one input. -/
def fnExactCutStripWrong : ChangeSpec := { name := "fnExactCutStrip", fn := fun _ => fun
  | [d1, d2] => { results := [.lit (.bool false)], args := [d1, d2] }
  | _ => none }
def FnExactCutStripWrongFalsely : Prop := fnExactCutStripRow.holds Try.pinned (OpenSpec.ofChange fnExactCutStripWrong)

/- THE SECOND FORM. 'bulk': how many values and letters a reading holds, each counted each time it is reached (what is shared counts as often as it is met; a slice's spare places count too). A statement '..UptoSaid' is the law's where the arguments, and the package variables that the reading takes, are together of bulk at most 1048576: NARROWER than '..Said'. Prove '..Said' where nothing that the law and all that it calls make is longer than what came in: it says more and counts as full. Else prove '..UptoSaid'. A law counts once. -/
mutual
def uptoBulk {H : Type} : DataW H → Nat
  | .lit (.string bytes) => bytes.length + 1
  | .lit _ => 1
  | .nil => 1
  | .ptr d => uptoBulk d + 1
  | .slice elems spare => uptoBulkAll elems + uptoBulkAll spare + 1
  | .agg parts => uptoBulkAll parts + 1
  | .iface _ d => uptoBulk d + 1
  | .map entries => uptoBulkEntries entries + 1
  | .held _ => 1
def uptoBulkAll {H : Type} : List (DataW H) → Nat
  | [] => 0
  | d :: r => uptoBulk d + uptoBulkAll r
def uptoBulkEntries {H : Type} : List (Lit × DataW H) → Nat
  | [] => 0
  | x :: r => uptoBulkEntry x + uptoBulkEntries r
def uptoBulkEntry {H : Type} : Lit × DataW H → Nat
  | (.string bytes, d) => bytes.length + uptoBulk d + 1
  | (_, d) => uptoBulk d + 1
 end
def uptoSmall : (H : Type) → List (DataW H) → Bool := fun _ ds => decide (uptoBulkAll ds ≤ 1048576)
def OpenSpec.upto (s : _root_.Go.ChangeSpec) : _root_.Go.OpenSpec := { _root_.Go.OpenSpec.ofChange s with cond := some uptoSmall }

/-- 'laws.FnExactNameFor', WHERE WHAT IT READS IS OF BULK AT MOST 1048576: true; the input reads as it did. -/
def fnExactNameForUptoRow : OpenClaim := { program := "ytfbkapafhaaaoaa", sum := "8c6cedc366601a028eea1bc86cf42ecf340afcafee69b56da02e1d2a2394dcb8", func := "loop.example/g03305/laws.FnExactNameFor", spec := "fnExactNameFor", apart := false, narrowed := true }
def FnExactNameForUptoSaid : Prop := fnExactNameForUptoRow.holds Try.pinned (OpenSpec.upto fnExactNameForSpec)

/-- 'laws.FnExactActOk', WHERE WHAT IT READS IS OF BULK AT MOST 1048576: true; the input reads as it did. -/
def fnExactActOkUptoRow : OpenClaim := { program := "ytfbkapafhaaaoaa", sum := "8c6cedc366601a028eea1bc86cf42ecf340afcafee69b56da02e1d2a2394dcb8", func := "loop.example/g03305/laws.FnExactActOk", spec := "fnExactActOk", apart := false, narrowed := true }
def FnExactActOkUptoSaid : Prop := fnExactActOkUptoRow.holds Try.pinned (OpenSpec.upto fnExactActOkSpec)

/-- 'laws.FnExactMirrorCard', WHERE WHAT IT READS IS OF BULK AT MOST 1048576: true; the input reads as it did. -/
def fnExactMirrorCardUptoRow : OpenClaim := { program := "ytfbkapafhaaaoaa", sum := "8c6cedc366601a028eea1bc86cf42ecf340afcafee69b56da02e1d2a2394dcb8", func := "loop.example/g03305/laws.FnExactMirrorCard", spec := "fnExactMirrorCard", inPlace := ["internal/bytealg.CountString", "internal/bytealg.IndexByteString", "internal/bytealg.IndexString"], named := ["internal/bytealg.MaxLen"], apart := false, narrowed := true }
def FnExactMirrorCardUptoSaid : Prop := fnExactMirrorCardUptoRow.holds Try.pinned (OpenSpec.upto fnExactMirrorCardSpec)

/-- 'laws.FnExactWithStrip', WHERE WHAT IT READS IS OF BULK AT MOST 1048576: true; the input reads as it did. -/
def fnExactWithStripUptoRow : OpenClaim := { program := "ytfbkapafhaaaoaa", sum := "8c6cedc366601a028eea1bc86cf42ecf340afcafee69b56da02e1d2a2394dcb8", func := "loop.example/g03305/laws.FnExactWithStrip", spec := "fnExactWithStrip", inPlace := ["internal/bytealg.CountString", "internal/bytealg.IndexByteString", "internal/bytealg.IndexString"], named := ["internal/bytealg.MaxLen"], apart := false, narrowed := true }
def FnExactWithStripUptoSaid : Prop := fnExactWithStripUptoRow.holds Try.pinned (OpenSpec.upto fnExactWithStripSpec)

/-- 'laws.FnExactCutStrip', WHERE WHAT IT READS IS OF BULK AT MOST 1048576: true; the input reads as it did. -/
def fnExactCutStripUptoRow : OpenClaim := { program := "ytfbkapafhaaaoaa", sum := "8c6cedc366601a028eea1bc86cf42ecf340afcafee69b56da02e1d2a2394dcb8", func := "loop.example/g03305/laws.FnExactCutStrip", spec := "fnExactCutStrip", inPlace := ["internal/bytealg.CountString", "internal/bytealg.IndexByteString", "internal/bytealg.IndexString"], named := ["internal/bytealg.MaxLen"], apart := false, narrowed := true }
def FnExactCutStripUptoSaid : Prop := fnExactCutStripUptoRow.holds Try.pinned (OpenSpec.upto fnExactCutStripSpec)

end Rows
end Go.Proofs.Ytfbkapafhaaaoaa
