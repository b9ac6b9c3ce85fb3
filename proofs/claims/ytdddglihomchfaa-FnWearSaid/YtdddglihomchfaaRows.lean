/-
  No cell of these rows narrows 'for every input' (looked for: loops, veiled, ifaces, maps, wideKeys, modest, calm, conditions, laid).
  DERIVED. THE GIVEN ROWS OF THIS SEAT. 3 by the template 'for every input the law returns true; each argument reads behind the call as it read before'; 0 by the template 'total and deterministic' (their statements: YtdddglihomchfaaTotals.lean).
  GIVEN WITH THE SEED: the statements are not yours to turn. If you find one false, say at which input.
  Laid BY PROGRAM, IN A SANDBOX (cutbox-rows.mjs): the forced cells as the released guide's own fill.sh prints them over the translation 6b2ff876d606559a… (all of the seat's roots in one cut). By AI agents, Wed Nov 11 2026. No macro, syntax, notation, axiom, sorry.
-/
import Derived.Test.YtdddglihomchfaaChecked
import GoSem.Claim
import GoSem.ClaimJoined
import GoSem.ClaimMapViews
import Derived.JoinedTies
import Derived.KernelRfl
namespace Go.Proofs.Ytdddglihomchfaa
/- THE CELL 'sum', in the pinned program and in every row, IS THE sha256 OF THE DUMP (.gsa) THAT YtdddglihomchfaaProg.lean LOADS. Nothing in Lean hashes anything: it is a label: what it is worth is what the hold of that sum in a sandbox is worth. -/
noncomputable def Try.pinned : Pinned := { name := "ytdddglihomchfaa", sum := "6b2ff876d606559a0726ea6f427c6819a29f0a74257af2977411e1868da06056", checked := Try.checked }
namespace Rows
def none {H : Type} : Left H := { results := [], args := [] }

/-- 'laws.FnExactOpenCopy': WHATEVER THE INPUT: true; the input reads as it did. -/
def fnExactOpenCopySpec : ChangeSpec := { name := "fnExactOpenCopy", fn := fun _ => fun
  | [d1, d2] => { results := [.lit (.bool true)], args := [d1, d2] }
  | _ => none }
def fnExactOpenCopyRow : OpenClaim := { program := "ytdddglihomchfaa", sum := "6b2ff876d606559a0726ea6f427c6819a29f0a74257af2977411e1868da06056", func := "loop.example/g03305/laws.FnExactOpenCopy", spec := "fnExactOpenCopy", inPlace := ["internal/bytealg.CountString", "internal/bytealg.IndexByteString", "internal/bytealg.IndexString"], named := ["internal/bytealg.MaxLen"], apart := false }
def FnExactOpenCopySaid : Prop := fnExactOpenCopyRow.holds Try.pinned (OpenSpec.ofChange fnExactOpenCopySpec)

/-- ITS FALSE NEIGHBOUR: 'it returns false'. Refute it at one input. -/
def fnExactOpenCopyWrong : ChangeSpec := { name := "fnExactOpenCopy", fn := fun _ => fun
  | [d1, d2] => { results := [.lit (.bool false)], args := [d1, d2] }
  | _ => none }
def FnExactOpenCopyWrongFalsely : Prop := fnExactOpenCopyRow.holds Try.pinned (OpenSpec.ofChange fnExactOpenCopyWrong)

/-- 'laws.FnExactTwinsIn': WHATEVER THE INPUT: true; the input reads as it did. -/
def fnExactTwinsInSpec : ChangeSpec := { name := "fnExactTwinsIn", fn := fun _ => fun
  | [d] => { results := [.lit (.bool true)], args := [d] }
  | _ => none }
def fnExactTwinsInRow : OpenClaim := { program := "ytdddglihomchfaa", sum := "6b2ff876d606559a0726ea6f427c6819a29f0a74257af2977411e1868da06056", func := "loop.example/g03305/laws.FnExactTwinsIn", spec := "fnExactTwinsIn", inPlace := ["internal/bytealg.CountString", "internal/bytealg.IndexByteString", "internal/bytealg.IndexString"], named := ["internal/bytealg.MaxLen"], apart := false }
def FnExactTwinsInSaid : Prop := fnExactTwinsInRow.holds Try.pinned (OpenSpec.ofChange fnExactTwinsInSpec)

/-- ITS FALSE NEIGHBOUR: 'it returns false'. Refute it at one input. -/
def fnExactTwinsInWrong : ChangeSpec := { name := "fnExactTwinsIn", fn := fun _ => fun
  | [d] => { results := [.lit (.bool false)], args := [d] }
  | _ => none }
def FnExactTwinsInWrongFalsely : Prop := fnExactTwinsInRow.holds Try.pinned (OpenSpec.ofChange fnExactTwinsInWrong)

/-- 'laws.FnWear': WHATEVER THE INPUT: true; the input reads as it did. -/
def fnWearSpec : ChangeSpec := { name := "fnWear", fn := fun _ => fun
  | [d] => { results := [.lit (.bool true)], args := [d] }
  | _ => none }
def fnWearRow : OpenClaim := { program := "ytdddglihomchfaa", sum := "6b2ff876d606559a0726ea6f427c6819a29f0a74257af2977411e1868da06056", func := "loop.example/g03305/laws.FnWear", spec := "fnWear", inPlace := ["internal/bytealg.CountString", "internal/bytealg.IndexByteString", "internal/bytealg.IndexString"], named := ["internal/bytealg.MaxLen"], apart := false }
def FnWearSaid : Prop := fnWearRow.holds Try.pinned (OpenSpec.ofChange fnWearSpec)

/-- ITS FALSE NEIGHBOUR: 'it returns false'. Refute it at one input. -/
def fnWearWrong : ChangeSpec := { name := "fnWear", fn := fun _ => fun
  | [d] => { results := [.lit (.bool false)], args := [d] }
  | _ => none }
def FnWearWrongFalsely : Prop := fnWearRow.holds Try.pinned (OpenSpec.ofChange fnWearWrong)

/- THE SECOND FORM. 'bulk': how many values and letters a reading holds, each counted each time it is reached (what is shared counts as often as it is met; a slice's spare places count too). A statement '..UptoSaid' is the law's where the arguments, and the package variables that the reading takes, are together of bulk at most 1048576: NARROWER than '..Said'. Prove '..Said' where nothing that the law and all that it calls make is longer than what came in: it says more and counts as full. Else prove '..UptoSaid'. A law counts once. -/
mutual
def uptoBulk {H : Type} : DataW H → Nat
  | .lit (.string bytes) => bytes.length + 1
  | .lit _ => 1
  | .nil => 1
  | .ptr d => uptoBulk d + 1
  | .slice elems spare => uptoBulkAll elems + uptoBulkAll spare + 1
  | .agg parts => uptoBulkAll parts + 1
  | .iface _ d => uptoBulk d + 1
  | .map entries => uptoBulkEntries entries + 1
  | .held _ => 1
def uptoBulkAll {H : Type} : List (DataW H) → Nat
  | [] => 0
  | d :: r => uptoBulk d + uptoBulkAll r
def uptoBulkEntries {H : Type} : List (Lit × DataW H) → Nat
  | [] => 0
  | x :: r => uptoBulkEntry x + uptoBulkEntries r
def uptoBulkEntry {H : Type} : Lit × DataW H → Nat
  | (.string bytes, d) => bytes.length + uptoBulk d + 1
  | (_, d) => uptoBulk d + 1
 end
def uptoSmall : (H : Type) → List (DataW H) → Bool := fun _ ds => decide (uptoBulkAll ds ≤ 1048576)
def OpenSpec.upto (s : _root_.Go.ChangeSpec) : _root_.Go.OpenSpec := { _root_.Go.OpenSpec.ofChange s with cond := some uptoSmall }

/-- 'laws.FnExactOpenCopy', WHERE WHAT IT READS IS OF BULK AT MOST 1048576: true; the input reads as it did. -/
def fnExactOpenCopyUptoRow : OpenClaim := { program := "ytdddglihomchfaa", sum := "6b2ff876d606559a0726ea6f427c6819a29f0a74257af2977411e1868da06056", func := "loop.example/g03305/laws.FnExactOpenCopy", spec := "fnExactOpenCopy", inPlace := ["internal/bytealg.CountString", "internal/bytealg.IndexByteString", "internal/bytealg.IndexString"], named := ["internal/bytealg.MaxLen"], apart := false, narrowed := true }
def FnExactOpenCopyUptoSaid : Prop := fnExactOpenCopyUptoRow.holds Try.pinned (OpenSpec.upto fnExactOpenCopySpec)

/-- 'laws.FnExactTwinsIn', WHERE WHAT IT READS IS OF BULK AT MOST 1048576: true; the input reads as it did. -/
def fnExactTwinsInUptoRow : OpenClaim := { program := "ytdddglihomchfaa", sum := "6b2ff876d606559a0726ea6f427c6819a29f0a74257af2977411e1868da06056", func := "loop.example/g03305/laws.FnExactTwinsIn", spec := "fnExactTwinsIn", inPlace := ["internal/bytealg.CountString", "internal/bytealg.IndexByteString", "internal/bytealg.IndexString"], named := ["internal/bytealg.MaxLen"], apart := false, narrowed := true }
def FnExactTwinsInUptoSaid : Prop := fnExactTwinsInUptoRow.holds Try.pinned (OpenSpec.upto fnExactTwinsInSpec)

/-- 'laws.FnWear', WHERE WHAT IT READS IS OF BULK AT MOST 1048576: true; the input reads as it did. -/
def fnWearUptoRow : OpenClaim := { program := "ytdddglihomchfaa", sum := "6b2ff876d606559a0726ea6f427c6819a29f0a74257af2977411e1868da06056", func := "loop.example/g03305/laws.FnWear", spec := "fnWear", inPlace := ["internal/bytealg.CountString", "internal/bytealg.IndexByteString", "internal/bytealg.IndexString"], named := ["internal/bytealg.MaxLen"], apart := false, narrowed := true }
def FnWearUptoSaid : Prop := fnWearUptoRow.holds Try.pinned (OpenSpec.upto fnWearSpec)

end Rows
end Go.Proofs.Ytdddglihomchfaa
