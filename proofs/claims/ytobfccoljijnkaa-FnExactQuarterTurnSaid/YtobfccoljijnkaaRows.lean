/-
  No cell of these rows narrows 'for every input' (looked for: loops, veiled, ifaces, maps, wideKeys, modest, calm, conditions, laid).
  DERIVED. THE GIVEN ROWS OF THIS SEAT. 11 by the template 'for every input the law returns true; each argument reads behind the call as it read before'; 0 by the template 'total and deterministic' (their statements: YtobfccoljijnkaaTotals.lean).
  GIVEN WITH THE SEED: the statements are not yours to turn. If you find one false, say at which input.
  Laid BY PROGRAM, IN A SANDBOX (cutbox-rows.mjs): the forced cells as the released guide's own fill.sh prints them over the translation 05cd30c77bfe534b… (all of the seat's roots in one cut). By AI agents, Wed Nov 11 2026. No macro, syntax, notation, axiom, sorry.
-/
import Derived.Test.YtobfccoljijnkaaChecked
import GoSem.Claim
import GoSem.ClaimJoined
import GoSem.ClaimMapViews
import Derived.JoinedTies
import Derived.KernelRfl
namespace Go.Proofs.Ytobfccoljijnkaa
/- THE CELL 'sum', in the pinned program and in every row, IS THE sha256 OF THE DUMP (.gsa) THAT YtobfccoljijnkaaProg.lean LOADS. Nothing in Lean hashes anything: it is a label: what it is worth is what the hold of that sum in a sandbox is worth. -/
noncomputable def Try.pinned : Pinned := { name := "ytobfccoljijnkaa", sum := "05cd30c77bfe534b977309b20bc418b9f46b8ec5366ec694ffbc5c34dd963d11", checked := Try.checked }
namespace Rows
def none {H : Type} : Left H := { results := [], args := [] }

/-- 'laws.FnExactExpandBox': WHATEVER THE INPUT: true; the input reads as it did. -/
def fnExactExpandBoxSpec : ChangeSpec := { name := "fnExactExpandBox", fn := fun _ => fun
  | [d1, d2] => { results := [.lit (.bool true)], args := [d1, d2] }
  | _ => none }
def fnExactExpandBoxRow : OpenClaim := { program := "ytobfccoljijnkaa", sum := "05cd30c77bfe534b977309b20bc418b9f46b8ec5366ec694ffbc5c34dd963d11", func := "loop.example/g00809/laws.FnExactExpandBox", spec := "fnExactExpandBox", unfollowed := true, recurses := true, apart := false }
def FnExactExpandBoxSaid : Prop := fnExactExpandBoxRow.holds Try.pinned (OpenSpec.ofChange fnExactExpandBoxSpec)

/-- ITS FALSE NEIGHBOUR: 'it returns false'. Refute it at one input. -/
def fnExactExpandBoxWrong : ChangeSpec := { name := "fnExactExpandBox", fn := fun _ => fun
  | [d1, d2] => { results := [.lit (.bool false)], args := [d1, d2] }
  | _ => none }
def FnExactExpandBoxWrongFalsely : Prop := fnExactExpandBoxRow.holds Try.pinned (OpenSpec.ofChange fnExactExpandBoxWrong)

/-- 'laws.FnExactUnionBox': WHATEVER THE INPUT: true; the input reads as it did. -/
def fnExactUnionBoxSpec : ChangeSpec := { name := "fnExactUnionBox", fn := fun _ => fun
  | [d1, d2] => { results := [.lit (.bool true)], args := [d1, d2] }
  | _ => none }
def fnExactUnionBoxRow : OpenClaim := { program := "ytobfccoljijnkaa", sum := "05cd30c77bfe534b977309b20bc418b9f46b8ec5366ec694ffbc5c34dd963d11", func := "loop.example/g00809/laws.FnExactUnionBox", spec := "fnExactUnionBox", unfollowed := true, recurses := true, apart := false }
def FnExactUnionBoxSaid : Prop := fnExactUnionBoxRow.holds Try.pinned (OpenSpec.ofChange fnExactUnionBoxSpec)

/-- ITS FALSE NEIGHBOUR: 'it returns false'. Refute it at one input. -/
def fnExactUnionBoxWrong : ChangeSpec := { name := "fnExactUnionBox", fn := fun _ => fun
  | [d1, d2] => { results := [.lit (.bool false)], args := [d1, d2] }
  | _ => none }
def FnExactUnionBoxWrongFalsely : Prop := fnExactUnionBoxRow.holds Try.pinned (OpenSpec.ofChange fnExactUnionBoxWrong)

/-- 'laws.FnExactSplitSubPatch': WHATEVER THE INPUT: true; the input reads as it did. -/
def fnExactSplitSubPatchSpec : ChangeSpec := { name := "fnExactSplitSubPatch", fn := fun _ => fun
  | [d] => { results := [.lit (.bool true)], args := [d] }
  | _ => none }
def fnExactSplitSubPatchRow : OpenClaim := { program := "ytobfccoljijnkaa", sum := "05cd30c77bfe534b977309b20bc418b9f46b8ec5366ec694ffbc5c34dd963d11", func := "loop.example/g00809/laws.FnExactSplitSubPatch", spec := "fnExactSplitSubPatch", unfollowed := true, recurses := true, apart := false }
def FnExactSplitSubPatchSaid : Prop := fnExactSplitSubPatchRow.holds Try.pinned (OpenSpec.ofChange fnExactSplitSubPatchSpec)

/-- ITS FALSE NEIGHBOUR: 'it returns false'. Refute it at one input. -/
def fnExactSplitSubPatchWrong : ChangeSpec := { name := "fnExactSplitSubPatch", fn := fun _ => fun
  | [d] => { results := [.lit (.bool false)], args := [d] }
  | _ => none }
def FnExactSplitSubPatchWrongFalsely : Prop := fnExactSplitSubPatchRow.holds Try.pinned (OpenSpec.ofChange fnExactSplitSubPatchWrong)

/-- 'laws.FnExactEvalPatch': WHATEVER THE INPUT: true; the input reads as it did. -/
def fnExactEvalPatchSpec : ChangeSpec := { name := "fnExactEvalPatch", fn := fun _ => fun
  | [d1, d2, d3, d4] => { results := [.lit (.bool true)], args := [d1, d2, d3, d4] }
  | _ => none }
def fnExactEvalPatchRow : OpenClaim := { program := "ytobfccoljijnkaa", sum := "05cd30c77bfe534b977309b20bc418b9f46b8ec5366ec694ffbc5c34dd963d11", func := "loop.example/g00809/laws.FnExactEvalPatch", spec := "fnExactEvalPatch", unfollowed := true, recurses := true, apart := false }
def FnExactEvalPatchSaid : Prop := fnExactEvalPatchRow.holds Try.pinned (OpenSpec.ofChange fnExactEvalPatchSpec)

/-- ITS FALSE NEIGHBOUR: 'it returns false'. Refute it at one input. -/
def fnExactEvalPatchWrong : ChangeSpec := { name := "fnExactEvalPatch", fn := fun _ => fun
  | [d1, d2, d3, d4] => { results := [.lit (.bool false)], args := [d1, d2, d3, d4] }
  | _ => none }
def FnExactEvalPatchWrongFalsely : Prop := fnExactEvalPatchRow.holds Try.pinned (OpenSpec.ofChange fnExactEvalPatchWrong)

/-- 'laws.FnExactEvalEdge': WHATEVER THE INPUT: true; the input reads as it did. -/
def fnExactEvalEdgeSpec : ChangeSpec := { name := "fnExactEvalEdge", fn := fun _ => fun
  | [d1, d2, d3, d4] => { results := [.lit (.bool true)], args := [d1, d2, d3, d4] }
  | _ => none }
def fnExactEvalEdgeRow : OpenClaim := { program := "ytobfccoljijnkaa", sum := "05cd30c77bfe534b977309b20bc418b9f46b8ec5366ec694ffbc5c34dd963d11", func := "loop.example/g00809/laws.FnExactEvalEdge", spec := "fnExactEvalEdge", unfollowed := true, recurses := true, apart := false }
def FnExactEvalEdgeSaid : Prop := fnExactEvalEdgeRow.holds Try.pinned (OpenSpec.ofChange fnExactEvalEdgeSpec)

/-- ITS FALSE NEIGHBOUR: 'it returns false'. Refute it at one input. -/
def fnExactEvalEdgeWrong : ChangeSpec := { name := "fnExactEvalEdge", fn := fun _ => fun
  | [d1, d2, d3, d4] => { results := [.lit (.bool false)], args := [d1, d2, d3, d4] }
  | _ => none }
def FnExactEvalEdgeWrongFalsely : Prop := fnExactEvalEdgeRow.holds Try.pinned (OpenSpec.ofChange fnExactEvalEdgeWrong)

/-- 'laws.FnExactQuarterTurn': WHATEVER THE INPUT: true; the input reads as it did. -/
def fnExactQuarterTurnSpec : ChangeSpec := { name := "fnExactQuarterTurn", fn := fun _ => fun
  | [d1, d2] => { results := [.lit (.bool true)], args := [d1, d2] }
  | _ => none }
def fnExactQuarterTurnRow : OpenClaim := { program := "ytobfccoljijnkaa", sum := "05cd30c77bfe534b977309b20bc418b9f46b8ec5366ec694ffbc5c34dd963d11", func := "loop.example/g00809/laws.FnExactQuarterTurn", spec := "fnExactQuarterTurn", apart := false }
def FnExactQuarterTurnSaid : Prop := fnExactQuarterTurnRow.holds Try.pinned (OpenSpec.ofChange fnExactQuarterTurnSpec)

/-- ITS FALSE NEIGHBOUR: 'it returns false'. Refute it at one input. -/
def fnExactQuarterTurnWrong : ChangeSpec := { name := "fnExactQuarterTurn", fn := fun _ => fun
  | [d1, d2] => { results := [.lit (.bool false)], args := [d1, d2] }
  | _ => none }
def FnExactQuarterTurnWrongFalsely : Prop := fnExactQuarterTurnRow.holds Try.pinned (OpenSpec.ofChange fnExactQuarterTurnWrong)

/-- 'laws.FnSplit': WHATEVER THE INPUT: true; the input reads as it did. -/
def fnSplitSpec : ChangeSpec := { name := "fnSplit", fn := fun _ => fun
  | [d] => { results := [.lit (.bool true)], args := [d] }
  | _ => none }
def fnSplitRow : OpenClaim := { program := "ytobfccoljijnkaa", sum := "05cd30c77bfe534b977309b20bc418b9f46b8ec5366ec694ffbc5c34dd963d11", func := "loop.example/g00809/laws.FnSplit", spec := "fnSplit", unfollowed := true, recurses := true, apart := false }
def FnSplitSaid : Prop := fnSplitRow.holds Try.pinned (OpenSpec.ofChange fnSplitSpec)

/-- ITS FALSE NEIGHBOUR: 'it returns false'. Refute it at one input. -/
def fnSplitWrong : ChangeSpec := { name := "fnSplit", fn := fun _ => fun
  | [d] => { results := [.lit (.bool false)], args := [d] }
  | _ => none }
def FnSplitWrongFalsely : Prop := fnSplitRow.holds Try.pinned (OpenSpec.ofChange fnSplitWrong)

/-- 'laws.FnExactPatchBounds': WHATEVER THE INPUT: true; the input reads as it did. -/
def fnExactPatchBoundsSpec : ChangeSpec := { name := "fnExactPatchBounds", fn := fun _ => fun
  | [d] => { results := [.lit (.bool true)], args := [d] }
  | _ => none }
def fnExactPatchBoundsRow : OpenClaim := { program := "ytobfccoljijnkaa", sum := "05cd30c77bfe534b977309b20bc418b9f46b8ec5366ec694ffbc5c34dd963d11", func := "loop.example/g00809/laws.FnExactPatchBounds", spec := "fnExactPatchBounds", unfollowed := true, recurses := true, apart := false }
def FnExactPatchBoundsSaid : Prop := fnExactPatchBoundsRow.holds Try.pinned (OpenSpec.ofChange fnExactPatchBoundsSpec)

/-- ITS FALSE NEIGHBOUR: 'it returns false'. Refute it at one input. -/
def fnExactPatchBoundsWrong : ChangeSpec := { name := "fnExactPatchBounds", fn := fun _ => fun
  | [d] => { results := [.lit (.bool false)], args := [d] }
  | _ => none }
def FnExactPatchBoundsWrongFalsely : Prop := fnExactPatchBoundsRow.holds Try.pinned (OpenSpec.ofChange fnExactPatchBoundsWrong)

/-- 'laws.FnExactBoundPoints': WHATEVER THE INPUT: true; the input reads as it did. -/
def fnExactBoundPointsSpec : ChangeSpec := { name := "fnExactBoundPoints", fn := fun _ => fun
  | [d] => { results := [.lit (.bool true)], args := [d] }
  | _ => none }
def fnExactBoundPointsRow : OpenClaim := { program := "ytobfccoljijnkaa", sum := "05cd30c77bfe534b977309b20bc418b9f46b8ec5366ec694ffbc5c34dd963d11", func := "loop.example/g00809/laws.FnExactBoundPoints", spec := "fnExactBoundPoints", unfollowed := true, recurses := true, apart := false }
def FnExactBoundPointsSaid : Prop := fnExactBoundPointsRow.holds Try.pinned (OpenSpec.ofChange fnExactBoundPointsSpec)

/-- ITS FALSE NEIGHBOUR: 'it returns false'. Refute it at one input. -/
def fnExactBoundPointsWrong : ChangeSpec := { name := "fnExactBoundPoints", fn := fun _ => fun
  | [d] => { results := [.lit (.bool false)], args := [d] }
  | _ => none }
def FnExactBoundPointsWrongFalsely : Prop := fnExactBoundPointsRow.holds Try.pinned (OpenSpec.ofChange fnExactBoundPointsWrong)

/-- 'laws.FnExactEvalSubPatch': WHATEVER THE INPUT: true; the input reads as it did. -/
def fnExactEvalSubPatchSpec : ChangeSpec := { name := "fnExactEvalSubPatch", fn := fun _ => fun
  | [d1, d2, d3, d4, d5] => { results := [.lit (.bool true)], args := [d1, d2, d3, d4, d5] }
  | _ => none }
def fnExactEvalSubPatchRow : OpenClaim := { program := "ytobfccoljijnkaa", sum := "05cd30c77bfe534b977309b20bc418b9f46b8ec5366ec694ffbc5c34dd963d11", func := "loop.example/g00809/laws.FnExactEvalSubPatch", spec := "fnExactEvalSubPatch", unfollowed := true, recurses := true, apart := false }
def FnExactEvalSubPatchSaid : Prop := fnExactEvalSubPatchRow.holds Try.pinned (OpenSpec.ofChange fnExactEvalSubPatchSpec)

/-- ITS FALSE NEIGHBOUR: 'it returns false'. Refute it at one input. -/
def fnExactEvalSubPatchWrong : ChangeSpec := { name := "fnExactEvalSubPatch", fn := fun _ => fun
  | [d1, d2, d3, d4, d5] => { results := [.lit (.bool false)], args := [d1, d2, d3, d4, d5] }
  | _ => none }
def FnExactEvalSubPatchWrongFalsely : Prop := fnExactEvalSubPatchRow.holds Try.pinned (OpenSpec.ofChange fnExactEvalSubPatchWrong)

/-- 'laws.FnBoxes': WHATEVER THE INPUT: true; the input reads as it did. -/
def fnBoxesSpec : ChangeSpec := { name := "fnBoxes", fn := fun _ => fun
  | [d] => { results := [.lit (.bool true)], args := [d] }
  | _ => none }
def fnBoxesRow : OpenClaim := { program := "ytobfccoljijnkaa", sum := "05cd30c77bfe534b977309b20bc418b9f46b8ec5366ec694ffbc5c34dd963d11", func := "loop.example/g00809/laws.FnBoxes", spec := "fnBoxes", unfollowed := true, recurses := true, apart := false }
def FnBoxesSaid : Prop := fnBoxesRow.holds Try.pinned (OpenSpec.ofChange fnBoxesSpec)

/-- ITS FALSE NEIGHBOUR: 'it returns false'. Refute it at one input. -/
def fnBoxesWrong : ChangeSpec := { name := "fnBoxes", fn := fun _ => fun
  | [d] => { results := [.lit (.bool false)], args := [d] }
  | _ => none }
def FnBoxesWrongFalsely : Prop := fnBoxesRow.holds Try.pinned (OpenSpec.ofChange fnBoxesWrong)

/- THE SECOND FORM. 'bulk': how many values and letters a reading holds, each counted each time it is reached (what is shared counts as often as it is met; a slice's spare places count too). A statement '..UptoSaid' is the law's where the arguments, and the package variables that the reading takes, are together of bulk at most 1048576: NARROWER than '..Said'. Prove '..Said' where nothing that the law and all that it calls make is longer than what came in: it says more and counts as full. Else prove '..UptoSaid'. A law counts once. -/
mutual
def uptoBulk {H : Type} : DataW H → Nat
  | .lit (.string bytes) => bytes.length + 1
  | .lit _ => 1
  | .nil => 1
  | .ptr d => uptoBulk d + 1
  | .slice elems spare => uptoBulkAll elems + uptoBulkAll spare + 1
  | .agg parts => uptoBulkAll parts + 1
  | .iface _ d => uptoBulk d + 1
  | .map entries => uptoBulkEntries entries + 1
  | .held _ => 1
def uptoBulkAll {H : Type} : List (DataW H) → Nat
  | [] => 0
  | d :: r => uptoBulk d + uptoBulkAll r
def uptoBulkEntries {H : Type} : List (Lit × DataW H) → Nat
  | [] => 0
  | x :: r => uptoBulkEntry x + uptoBulkEntries r
def uptoBulkEntry {H : Type} : Lit × DataW H → Nat
  | (.string bytes, d) => bytes.length + uptoBulk d + 1
  | (_, d) => uptoBulk d + 1
 end
def uptoSmall : (H : Type) → List (DataW H) → Bool := fun _ ds => decide (uptoBulkAll ds ≤ 1048576)
def OpenSpec.upto (s : _root_.Go.ChangeSpec) : _root_.Go.OpenSpec := { _root_.Go.OpenSpec.ofChange s with cond := some uptoSmall }

/-- 'laws.FnExactExpandBox', WHERE WHAT IT READS IS OF BULK AT MOST 1048576: true; the input reads as it did. -/
def fnExactExpandBoxUptoRow : OpenClaim := { program := "ytobfccoljijnkaa", sum := "05cd30c77bfe534b977309b20bc418b9f46b8ec5366ec694ffbc5c34dd963d11", func := "loop.example/g00809/laws.FnExactExpandBox", spec := "fnExactExpandBox", unfollowed := true, recurses := true, apart := false, narrowed := true }
def FnExactExpandBoxUptoSaid : Prop := fnExactExpandBoxUptoRow.holds Try.pinned (OpenSpec.upto fnExactExpandBoxSpec)

/-- 'laws.FnExactUnionBox', WHERE WHAT IT READS IS OF BULK AT MOST 1048576: true; the input reads as it did. -/
def fnExactUnionBoxUptoRow : OpenClaim := { program := "ytobfccoljijnkaa", sum := "05cd30c77bfe534b977309b20bc418b9f46b8ec5366ec694ffbc5c34dd963d11", func := "loop.example/g00809/laws.FnExactUnionBox", spec := "fnExactUnionBox", unfollowed := true, recurses := true, apart := false, narrowed := true }
def FnExactUnionBoxUptoSaid : Prop := fnExactUnionBoxUptoRow.holds Try.pinned (OpenSpec.upto fnExactUnionBoxSpec)

/-- 'laws.FnExactSplitSubPatch', WHERE WHAT IT READS IS OF BULK AT MOST 1048576: true; the input reads as it did. -/
def fnExactSplitSubPatchUptoRow : OpenClaim := { program := "ytobfccoljijnkaa", sum := "05cd30c77bfe534b977309b20bc418b9f46b8ec5366ec694ffbc5c34dd963d11", func := "loop.example/g00809/laws.FnExactSplitSubPatch", spec := "fnExactSplitSubPatch", unfollowed := true, recurses := true, apart := false, narrowed := true }
def FnExactSplitSubPatchUptoSaid : Prop := fnExactSplitSubPatchUptoRow.holds Try.pinned (OpenSpec.upto fnExactSplitSubPatchSpec)

/-- 'laws.FnExactEvalPatch', WHERE WHAT IT READS IS OF BULK AT MOST 1048576: true; the input reads as it did. -/
def fnExactEvalPatchUptoRow : OpenClaim := { program := "ytobfccoljijnkaa", sum := "05cd30c77bfe534b977309b20bc418b9f46b8ec5366ec694ffbc5c34dd963d11", func := "loop.example/g00809/laws.FnExactEvalPatch", spec := "fnExactEvalPatch", unfollowed := true, recurses := true, apart := false, narrowed := true }
def FnExactEvalPatchUptoSaid : Prop := fnExactEvalPatchUptoRow.holds Try.pinned (OpenSpec.upto fnExactEvalPatchSpec)

/-- 'laws.FnExactEvalEdge', WHERE WHAT IT READS IS OF BULK AT MOST 1048576: true; the input reads as it did. -/
def fnExactEvalEdgeUptoRow : OpenClaim := { program := "ytobfccoljijnkaa", sum := "05cd30c77bfe534b977309b20bc418b9f46b8ec5366ec694ffbc5c34dd963d11", func := "loop.example/g00809/laws.FnExactEvalEdge", spec := "fnExactEvalEdge", unfollowed := true, recurses := true, apart := false, narrowed := true }
def FnExactEvalEdgeUptoSaid : Prop := fnExactEvalEdgeUptoRow.holds Try.pinned (OpenSpec.upto fnExactEvalEdgeSpec)

/-- 'laws.FnExactQuarterTurn', WHERE WHAT IT READS IS OF BULK AT MOST 1048576: true; the input reads as it did. -/
def fnExactQuarterTurnUptoRow : OpenClaim := { program := "ytobfccoljijnkaa", sum := "05cd30c77bfe534b977309b20bc418b9f46b8ec5366ec694ffbc5c34dd963d11", func := "loop.example/g00809/laws.FnExactQuarterTurn", spec := "fnExactQuarterTurn", apart := false, narrowed := true }
def FnExactQuarterTurnUptoSaid : Prop := fnExactQuarterTurnUptoRow.holds Try.pinned (OpenSpec.upto fnExactQuarterTurnSpec)

/-- 'laws.FnSplit', WHERE WHAT IT READS IS OF BULK AT MOST 1048576: true; the input reads as it did. -/
def fnSplitUptoRow : OpenClaim := { program := "ytobfccoljijnkaa", sum := "05cd30c77bfe534b977309b20bc418b9f46b8ec5366ec694ffbc5c34dd963d11", func := "loop.example/g00809/laws.FnSplit", spec := "fnSplit", unfollowed := true, recurses := true, apart := false, narrowed := true }
def FnSplitUptoSaid : Prop := fnSplitUptoRow.holds Try.pinned (OpenSpec.upto fnSplitSpec)

/-- 'laws.FnExactPatchBounds', WHERE WHAT IT READS IS OF BULK AT MOST 1048576: true; the input reads as it did. -/
def fnExactPatchBoundsUptoRow : OpenClaim := { program := "ytobfccoljijnkaa", sum := "05cd30c77bfe534b977309b20bc418b9f46b8ec5366ec694ffbc5c34dd963d11", func := "loop.example/g00809/laws.FnExactPatchBounds", spec := "fnExactPatchBounds", unfollowed := true, recurses := true, apart := false, narrowed := true }
def FnExactPatchBoundsUptoSaid : Prop := fnExactPatchBoundsUptoRow.holds Try.pinned (OpenSpec.upto fnExactPatchBoundsSpec)

/-- 'laws.FnExactBoundPoints', WHERE WHAT IT READS IS OF BULK AT MOST 1048576: true; the input reads as it did. -/
def fnExactBoundPointsUptoRow : OpenClaim := { program := "ytobfccoljijnkaa", sum := "05cd30c77bfe534b977309b20bc418b9f46b8ec5366ec694ffbc5c34dd963d11", func := "loop.example/g00809/laws.FnExactBoundPoints", spec := "fnExactBoundPoints", unfollowed := true, recurses := true, apart := false, narrowed := true }
def FnExactBoundPointsUptoSaid : Prop := fnExactBoundPointsUptoRow.holds Try.pinned (OpenSpec.upto fnExactBoundPointsSpec)

/-- 'laws.FnExactEvalSubPatch', WHERE WHAT IT READS IS OF BULK AT MOST 1048576: true; the input reads as it did. -/
def fnExactEvalSubPatchUptoRow : OpenClaim := { program := "ytobfccoljijnkaa", sum := "05cd30c77bfe534b977309b20bc418b9f46b8ec5366ec694ffbc5c34dd963d11", func := "loop.example/g00809/laws.FnExactEvalSubPatch", spec := "fnExactEvalSubPatch", unfollowed := true, recurses := true, apart := false, narrowed := true }
def FnExactEvalSubPatchUptoSaid : Prop := fnExactEvalSubPatchUptoRow.holds Try.pinned (OpenSpec.upto fnExactEvalSubPatchSpec)

/-- 'laws.FnBoxes', WHERE WHAT IT READS IS OF BULK AT MOST 1048576: true; the input reads as it did. -/
def fnBoxesUptoRow : OpenClaim := { program := "ytobfccoljijnkaa", sum := "05cd30c77bfe534b977309b20bc418b9f46b8ec5366ec694ffbc5c34dd963d11", func := "loop.example/g00809/laws.FnBoxes", spec := "fnBoxes", unfollowed := true, recurses := true, apart := false, narrowed := true }
def FnBoxesUptoSaid : Prop := fnBoxesUptoRow.holds Try.pinned (OpenSpec.upto fnBoxesSpec)

end Rows
end Go.Proofs.Ytobfccoljijnkaa
