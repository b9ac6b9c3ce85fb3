/-
  No cell of these rows narrows 'for every input' (looked for: loops, veiled, ifaces, maps, wideKeys, modest, calm, conditions, laid).
  DERIVED. THE GIVEN ROWS OF THIS SEAT. 4 by the template 'for every input the law returns true; each argument reads behind the call as it read before'; 0 by the template 'total and deterministic' (their statements: YtccjedongkokoaaTotals.lean).
  GIVEN WITH THE SEED: the statements are not yours to turn. If you find one false, say at which input.
  Laid BY PROGRAM, IN A SANDBOX (cutbox-rows.mjs): the forced cells as the released guide's own fill.sh prints them over the translation e60b214d21446d64… (all of the seat's roots in one cut). By AI agents, Wed Nov 11 2026. No macro, syntax, notation, axiom, sorry.
-/
import Derived.Test.YtccjedongkokoaaChecked
import GoSem.Claim
import GoSem.ClaimJoined
import GoSem.ClaimMapViews
import Derived.JoinedTies
import Derived.KernelRfl
namespace Go.Proofs.Ytccjedongkokoaa
/- THE CELL 'sum', in the pinned program and in every row, IS THE sha256 OF THE DUMP (.gsa) THAT YtccjedongkokoaaProg.lean LOADS. Nothing in Lean hashes anything: it is a label: what it is worth is what the hold of that sum in a sandbox is worth. -/
noncomputable def Try.pinned : Pinned := { name := "ytccjedongkokoaa", sum := "e60b214d21446d64779f3d7b30ae3de56d72bf7a5c1eb45a8c9f6421567be822", checked := Try.checked }
namespace Rows
def none {H : Type} : Left H := { results := [], args := [] }

/-- 'laws.FnBoxes': WHATEVER THE INPUT: true; the input reads as it did. -/
def fnBoxesSpec : ChangeSpec := { name := "fnBoxes", fn := fun _ => fun
  | [d] => { results := [.lit (.bool true)], args := [d] }
  | _ => none }
def fnBoxesRow : OpenClaim := { program := "ytccjedongkokoaa", sum := "e60b214d21446d64779f3d7b30ae3de56d72bf7a5c1eb45a8c9f6421567be822", func := "loop.example/g03305/laws.FnBoxes", spec := "fnBoxes", inPlace := ["internal/bytealg.CountString", "internal/bytealg.IndexByteString", "internal/bytealg.IndexString", "internal/abi.NoEscape", "internal/bytealg.MakeNoZero"], unfollowed := true, recurses := true, named := ["internal/bytealg.MaxLen"], apart := false }
def FnBoxesSaid : Prop := fnBoxesRow.holds Try.pinned (OpenSpec.ofChange fnBoxesSpec)

/-- ITS FALSE NEIGHBOUR: 'it returns false'. Refute it at one input. -/
def fnBoxesWrong : ChangeSpec := { name := "fnBoxes", fn := fun _ => fun
  | [d] => { results := [.lit (.bool false)], args := [d] }
  | _ => none }
def FnBoxesWrongFalsely : Prop := fnBoxesRow.holds Try.pinned (OpenSpec.ofChange fnBoxesWrong)

/-- 'laws.FnLikeness': WHATEVER THE INPUT: true; the input reads as it did. -/
def fnLikenessSpec : ChangeSpec := { name := "fnLikeness", fn := fun _ => fun
  | [d] => { results := [.lit (.bool true)], args := [d] }
  | _ => none }
def fnLikenessRow : OpenClaim := { program := "ytccjedongkokoaa", sum := "e60b214d21446d64779f3d7b30ae3de56d72bf7a5c1eb45a8c9f6421567be822", func := "loop.example/g03305/laws.FnLikeness", spec := "fnLikeness", inPlace := ["internal/bytealg.CountString", "internal/bytealg.IndexByteString", "internal/bytealg.IndexString"], unfollowed := true, recurses := true, named := ["internal/bytealg.MaxLen"], apart := false }
def FnLikenessSaid : Prop := fnLikenessRow.holds Try.pinned (OpenSpec.ofChange fnLikenessSpec)

/-- ITS FALSE NEIGHBOUR: 'it returns false'. Refute it at one input. -/
def fnLikenessWrong : ChangeSpec := { name := "fnLikeness", fn := fun _ => fun
  | [d] => { results := [.lit (.bool false)], args := [d] }
  | _ => none }
def FnLikenessWrongFalsely : Prop := fnLikenessRow.holds Try.pinned (OpenSpec.ofChange fnLikenessWrong)

/-- 'laws.FnCatalogs': WHATEVER THE INPUT: true; the input reads as it did. -/
def fnCatalogsSpec : ChangeSpec := { name := "fnCatalogs", fn := fun _ => fun
  | [d] => { results := [.lit (.bool true)], args := [d] }
  | _ => none }
def fnCatalogsRow : OpenClaim := { program := "ytccjedongkokoaa", sum := "e60b214d21446d64779f3d7b30ae3de56d72bf7a5c1eb45a8c9f6421567be822", func := "loop.example/g03305/laws.FnCatalogs", spec := "fnCatalogs", inPlace := ["slices.overlaps[loop.example/g03305/impl.Item]", "internal/bytealg.CountString", "internal/bytealg.IndexByteString", "internal/bytealg.IndexString"], unfollowed := true, recurses := true, named := ["internal/bytealg.MaxLen"], apart := false }
def FnCatalogsSaid : Prop := fnCatalogsRow.holds Try.pinned (OpenSpec.ofChange fnCatalogsSpec)

/-- ITS FALSE NEIGHBOUR: 'it returns false'. Refute it at one input. -/
def fnCatalogsWrong : ChangeSpec := { name := "fnCatalogs", fn := fun _ => fun
  | [d] => { results := [.lit (.bool false)], args := [d] }
  | _ => none }
def FnCatalogsWrongFalsely : Prop := fnCatalogsRow.holds Try.pinned (OpenSpec.ofChange fnCatalogsWrong)

/-- 'laws.FnExactTwinsIn': WHATEVER THE INPUT: true; the input reads as it did. -/
def fnExactTwinsInSpec : ChangeSpec := { name := "fnExactTwinsIn", fn := fun _ => fun
  | [d] => { results := [.lit (.bool true)], args := [d] }
  | _ => none }
def fnExactTwinsInRow : OpenClaim := { program := "ytccjedongkokoaa", sum := "e60b214d21446d64779f3d7b30ae3de56d72bf7a5c1eb45a8c9f6421567be822", func := "loop.example/g03305/laws.FnExactTwinsIn", spec := "fnExactTwinsIn", inPlace := ["internal/bytealg.CountString", "internal/bytealg.IndexByteString", "internal/bytealg.IndexString"], named := ["internal/bytealg.MaxLen"], apart := false }
def FnExactTwinsInSaid : Prop := fnExactTwinsInRow.holds Try.pinned (OpenSpec.ofChange fnExactTwinsInSpec)

/-- ITS FALSE NEIGHBOUR: 'it returns false'. Refute it at one input. -/
def fnExactTwinsInWrong : ChangeSpec := { name := "fnExactTwinsIn", fn := fun _ => fun
  | [d] => { results := [.lit (.bool false)], args := [d] }
  | _ => none }
def FnExactTwinsInWrongFalsely : Prop := fnExactTwinsInRow.holds Try.pinned (OpenSpec.ofChange fnExactTwinsInWrong)

/- THE SECOND FORM. 'bulk': how many values and letters a reading holds, each counted each time it is reached (what is shared counts as often as it is met; a slice's spare places count too). A statement '..UptoSaid' is the law's where the arguments, and the package variables that the reading takes, are together of bulk at most 1048576: NARROWER than '..Said'. Prove '..Said' where nothing that the law and all that it calls make is longer than what came in: it says more and counts as full. Else prove '..UptoSaid'. A law counts once. -/
mutual
def uptoBulk {H : Type} : DataW H → Nat
  | .lit (.string bytes) => bytes.length + 1
  | .lit _ => 1
  | .nil => 1
  | .ptr d => uptoBulk d + 1
  | .slice elems spare => uptoBulkAll elems + uptoBulkAll spare + 1
  | .agg parts => uptoBulkAll parts + 1
  | .iface _ d => uptoBulk d + 1
  | .map entries => uptoBulkEntries entries + 1
  | .held _ => 1
def uptoBulkAll {H : Type} : List (DataW H) → Nat
  | [] => 0
  | d :: r => uptoBulk d + uptoBulkAll r
def uptoBulkEntries {H : Type} : List (Lit × DataW H) → Nat
  | [] => 0
  | x :: r => uptoBulkEntry x + uptoBulkEntries r
def uptoBulkEntry {H : Type} : Lit × DataW H → Nat
  | (.string bytes, d) => bytes.length + uptoBulk d + 1
  | (_, d) => uptoBulk d + 1
 end
def uptoSmall : (H : Type) → List (DataW H) → Bool := fun _ ds => decide (uptoBulkAll ds ≤ 1048576)
def OpenSpec.upto (s : _root_.Go.ChangeSpec) : _root_.Go.OpenSpec := { _root_.Go.OpenSpec.ofChange s with cond := some uptoSmall }

/-- 'laws.FnBoxes', WHERE WHAT IT READS IS OF BULK AT MOST 1048576: true; the input reads as it did. -/
def fnBoxesUptoRow : OpenClaim := { program := "ytccjedongkokoaa", sum := "e60b214d21446d64779f3d7b30ae3de56d72bf7a5c1eb45a8c9f6421567be822", func := "loop.example/g03305/laws.FnBoxes", spec := "fnBoxes", inPlace := ["internal/bytealg.CountString", "internal/bytealg.IndexByteString", "internal/bytealg.IndexString", "internal/abi.NoEscape", "internal/bytealg.MakeNoZero"], unfollowed := true, recurses := true, named := ["internal/bytealg.MaxLen"], apart := false, narrowed := true }
def FnBoxesUptoSaid : Prop := fnBoxesUptoRow.holds Try.pinned (OpenSpec.upto fnBoxesSpec)

/-- 'laws.FnLikeness', WHERE WHAT IT READS IS OF BULK AT MOST 1048576: true; the input reads as it did. -/
def fnLikenessUptoRow : OpenClaim := { program := "ytccjedongkokoaa", sum := "e60b214d21446d64779f3d7b30ae3de56d72bf7a5c1eb45a8c9f6421567be822", func := "loop.example/g03305/laws.FnLikeness", spec := "fnLikeness", inPlace := ["internal/bytealg.CountString", "internal/bytealg.IndexByteString", "internal/bytealg.IndexString"], unfollowed := true, recurses := true, named := ["internal/bytealg.MaxLen"], apart := false, narrowed := true }
def FnLikenessUptoSaid : Prop := fnLikenessUptoRow.holds Try.pinned (OpenSpec.upto fnLikenessSpec)

/-- 'laws.FnCatalogs', WHERE WHAT IT READS IS OF BULK AT MOST 1048576: true; the input reads as it did. -/
def fnCatalogsUptoRow : OpenClaim := { program := "ytccjedongkokoaa", sum := "e60b214d21446d64779f3d7b30ae3de56d72bf7a5c1eb45a8c9f6421567be822", func := "loop.example/g03305/laws.FnCatalogs", spec := "fnCatalogs", inPlace := ["slices.overlaps[loop.example/g03305/impl.Item]", "internal/bytealg.CountString", "internal/bytealg.IndexByteString", "internal/bytealg.IndexString"], unfollowed := true, recurses := true, named := ["internal/bytealg.MaxLen"], apart := false, narrowed := true }
def FnCatalogsUptoSaid : Prop := fnCatalogsUptoRow.holds Try.pinned (OpenSpec.upto fnCatalogsSpec)

/-- 'laws.FnExactTwinsIn', WHERE WHAT IT READS IS OF BULK AT MOST 1048576: true; the input reads as it did. -/
def fnExactTwinsInUptoRow : OpenClaim := { program := "ytccjedongkokoaa", sum := "e60b214d21446d64779f3d7b30ae3de56d72bf7a5c1eb45a8c9f6421567be822", func := "loop.example/g03305/laws.FnExactTwinsIn", spec := "fnExactTwinsIn", inPlace := ["internal/bytealg.CountString", "internal/bytealg.IndexByteString", "internal/bytealg.IndexString"], named := ["internal/bytealg.MaxLen"], apart := false, narrowed := true }
def FnExactTwinsInUptoSaid : Prop := fnExactTwinsInUptoRow.holds Try.pinned (OpenSpec.upto fnExactTwinsInSpec)

end Rows
end Go.Proofs.Ytccjedongkokoaa
