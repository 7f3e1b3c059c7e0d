/-
  No cell of these rows narrows 'for every input' (looked for: loops, veiled, ifaces, maps, wideKeys, modest, calm, conditions, laid).
  DERIVED. THE GIVEN ROWS OF THIS SEAT. 12 by the template 'for every input the law returns true; each argument reads behind the call as it read before'; 0 by the template 'total and deterministic' (their statements: YtcmkmioojmeafaaTotals.lean).
  GIVEN WITH THE SEED: the statements are not yours to turn. If you find one false, say at which input.
  Laid BY PROGRAM, IN A SANDBOX (cutbox-rows.mjs): the forced cells as the released guide's own fill.sh prints them over the translation d61ed2b587df8823… (all of the seat's roots in one cut). By AI agents, Wed Nov 11 2026. No macro, syntax, notation, axiom, sorry.
-/
import Derived.Test.YtcmkmioojmeafaaChecked
import GoSem.Claim
import GoSem.ClaimJoined
import GoSem.ClaimMapViews
import Derived.JoinedTies
import Derived.KernelRfl
namespace Go.Proofs.Ytcmkmioojmeafaa
/- THE CELL 'sum', in the pinned program and in every row, IS THE sha256 OF THE DUMP (.gsa) THAT YtcmkmioojmeafaaProg.lean LOADS. Nothing in Lean hashes anything: it is a label: what it is worth is what the hold of that sum in a sandbox is worth. -/
noncomputable def Try.pinned : Pinned := { name := "ytcmkmioojmeafaa", sum := "d61ed2b587df8823ff9c5445be6665371fa54dc78bba0e847fde97d5bddc1676", checked := Try.checked }
namespace Rows
def none {H : Type} : Left H := { results := [], args := [] }

/-- 'laws.FnExactConstants': WHATEVER THE INPUT: true; the input reads as it did. -/
def fnExactConstantsSpec : ChangeSpec := { name := "fnExactConstants", fn := fun _ => fun
  | [] => { results := [.lit (.bool true)], args := [] }
  | _ => none }
def fnExactConstantsRow : OpenClaim := { program := "ytcmkmioojmeafaa", sum := "d61ed2b587df8823ff9c5445be6665371fa54dc78bba0e847fde97d5bddc1676", func := "loop.example/g00809/laws.FnExactConstants", spec := "fnExactConstants", apart := false }
def FnExactConstantsSaid : Prop := fnExactConstantsRow.holds Try.pinned (OpenSpec.ofChange fnExactConstantsSpec)

/-- ITS FALSE NEIGHBOUR: 'it returns false'. Refute it at one input. -/
def fnExactConstantsWrong : ChangeSpec := { name := "fnExactConstants", fn := fun _ => fun
  | [] => { results := [.lit (.bool false)], args := [] }
  | _ => none }
def FnExactConstantsWrongFalsely : Prop := fnExactConstantsRow.holds Try.pinned (OpenSpec.ofChange fnExactConstantsWrong)

/-- 'laws.FnExactClamp': WHATEVER THE INPUT: true; the input reads as it did. -/
def fnExactClampSpec : ChangeSpec := { name := "fnExactClamp", fn := fun _ => fun
  | [d1, d2, d3] => { results := [.lit (.bool true)], args := [d1, d2, d3] }
  | _ => none }
def fnExactClampRow : OpenClaim := { program := "ytcmkmioojmeafaa", sum := "d61ed2b587df8823ff9c5445be6665371fa54dc78bba0e847fde97d5bddc1676", func := "loop.example/g00809/laws.FnExactClamp", spec := "fnExactClamp", apart := false }
def FnExactClampSaid : Prop := fnExactClampRow.holds Try.pinned (OpenSpec.ofChange fnExactClampSpec)

/-- ITS FALSE NEIGHBOUR: 'it returns false'. Refute it at one input. -/
def fnExactClampWrong : ChangeSpec := { name := "fnExactClamp", fn := fun _ => fun
  | [d1, d2, d3] => { results := [.lit (.bool false)], args := [d1, d2, d3] }
  | _ => none }
def FnExactClampWrongFalsely : Prop := fnExactClampRow.holds Try.pinned (OpenSpec.ofChange fnExactClampWrong)

/-- 'laws.FnExactIsIdentifier': WHATEVER THE INPUT: true; the input reads as it did. -/
def fnExactIsIdentifierSpec : ChangeSpec := { name := "fnExactIsIdentifier", fn := fun _ => fun
  | [d] => { results := [.lit (.bool true)], args := [d] }
  | _ => none }
def fnExactIsIdentifierRow : OpenClaim := { program := "ytcmkmioojmeafaa", sum := "d61ed2b587df8823ff9c5445be6665371fa54dc78bba0e847fde97d5bddc1676", func := "loop.example/g00809/laws.FnExactIsIdentifier", spec := "fnExactIsIdentifier", apart := false }
def FnExactIsIdentifierSaid : Prop := fnExactIsIdentifierRow.holds Try.pinned (OpenSpec.ofChange fnExactIsIdentifierSpec)

/-- ITS FALSE NEIGHBOUR: 'it returns false'. Refute it at one input. -/
def fnExactIsIdentifierWrong : ChangeSpec := { name := "fnExactIsIdentifier", fn := fun _ => fun
  | [d] => { results := [.lit (.bool false)], args := [d] }
  | _ => none }
def FnExactIsIdentifierWrongFalsely : Prop := fnExactIsIdentifierRow.holds Try.pinned (OpenSpec.ofChange fnExactIsIdentifierWrong)

/-- 'laws.FnExactIsValidSubPatch': WHATEVER THE INPUT: true; the input reads as it did. -/
def fnExactIsValidSubPatchSpec : ChangeSpec := { name := "fnExactIsValidSubPatch", fn := fun _ => fun
  | [d] => { results := [.lit (.bool true)], args := [d] }
  | _ => none }
def fnExactIsValidSubPatchRow : OpenClaim := { program := "ytcmkmioojmeafaa", sum := "d61ed2b587df8823ff9c5445be6665371fa54dc78bba0e847fde97d5bddc1676", func := "loop.example/g00809/laws.FnExactIsValidSubPatch", spec := "fnExactIsValidSubPatch", apart := false }
def FnExactIsValidSubPatchSaid : Prop := fnExactIsValidSubPatchRow.holds Try.pinned (OpenSpec.ofChange fnExactIsValidSubPatchSpec)

/-- ITS FALSE NEIGHBOUR: 'it returns false'. Refute it at one input. -/
def fnExactIsValidSubPatchWrong : ChangeSpec := { name := "fnExactIsValidSubPatch", fn := fun _ => fun
  | [d] => { results := [.lit (.bool false)], args := [d] }
  | _ => none }
def FnExactIsValidSubPatchWrongFalsely : Prop := fnExactIsValidSubPatchRow.holds Try.pinned (OpenSpec.ofChange fnExactIsValidSubPatchWrong)

/-- 'laws.FnExactFloorDiv': WHATEVER THE INPUT: true; the input reads as it did. -/
def fnExactFloorDivSpec : ChangeSpec := { name := "fnExactFloorDiv", fn := fun _ => fun
  | [d1, d2] => { results := [.lit (.bool true)], args := [d1, d2] }
  | _ => none }
def fnExactFloorDivRow : OpenClaim := { program := "ytcmkmioojmeafaa", sum := "d61ed2b587df8823ff9c5445be6665371fa54dc78bba0e847fde97d5bddc1676", func := "loop.example/g00809/laws.FnExactFloorDiv", spec := "fnExactFloorDiv", apart := false }
def FnExactFloorDivSaid : Prop := fnExactFloorDivRow.holds Try.pinned (OpenSpec.ofChange fnExactFloorDivSpec)

/-- ITS FALSE NEIGHBOUR: 'it returns false'. Refute it at one input. -/
def fnExactFloorDivWrong : ChangeSpec := { name := "fnExactFloorDiv", fn := fun _ => fun
  | [d1, d2] => { results := [.lit (.bool false)], args := [d1, d2] }
  | _ => none }
def FnExactFloorDivWrongFalsely : Prop := fnExactFloorDivRow.holds Try.pinned (OpenSpec.ofChange fnExactFloorDivWrong)

/-- 'laws.FnExactBoxContains': WHATEVER THE INPUT: true; the input reads as it did. -/
def fnExactBoxContainsSpec : ChangeSpec := { name := "fnExactBoxContains", fn := fun _ => fun
  | [d1, d2] => { results := [.lit (.bool true)], args := [d1, d2] }
  | _ => none }
def fnExactBoxContainsRow : OpenClaim := { program := "ytcmkmioojmeafaa", sum := "d61ed2b587df8823ff9c5445be6665371fa54dc78bba0e847fde97d5bddc1676", func := "loop.example/g00809/laws.FnExactBoxContains", spec := "fnExactBoxContains", apart := false }
def FnExactBoxContainsSaid : Prop := fnExactBoxContainsRow.holds Try.pinned (OpenSpec.ofChange fnExactBoxContainsSpec)

/-- ITS FALSE NEIGHBOUR: 'it returns false'. Refute it at one input. -/
def fnExactBoxContainsWrong : ChangeSpec := { name := "fnExactBoxContains", fn := fun _ => fun
  | [d1, d2] => { results := [.lit (.bool false)], args := [d1, d2] }
  | _ => none }
def FnExactBoxContainsWrongFalsely : Prop := fnExactBoxContainsRow.holds Try.pinned (OpenSpec.ofChange fnExactBoxContainsWrong)

/-- 'laws.FnExactIsValidVec': WHATEVER THE INPUT: true; the input reads as it did. -/
def fnExactIsValidVecSpec : ChangeSpec := { name := "fnExactIsValidVec", fn := fun _ => fun
  | [d] => { results := [.lit (.bool true)], args := [d] }
  | _ => none }
def fnExactIsValidVecRow : OpenClaim := { program := "ytcmkmioojmeafaa", sum := "d61ed2b587df8823ff9c5445be6665371fa54dc78bba0e847fde97d5bddc1676", func := "loop.example/g00809/laws.FnExactIsValidVec", spec := "fnExactIsValidVec", unfollowed := true, recurses := true, apart := false }
def FnExactIsValidVecSaid : Prop := fnExactIsValidVecRow.holds Try.pinned (OpenSpec.ofChange fnExactIsValidVecSpec)

/-- ITS FALSE NEIGHBOUR: 'it returns false'. Refute it at one input. -/
def fnExactIsValidVecWrong : ChangeSpec := { name := "fnExactIsValidVec", fn := fun _ => fun
  | [d] => { results := [.lit (.bool false)], args := [d] }
  | _ => none }
def FnExactIsValidVecWrongFalsely : Prop := fnExactIsValidVecRow.holds Try.pinned (OpenSpec.ofChange fnExactIsValidVecWrong)

/-- 'laws.FnExactBoxesOverlap': WHATEVER THE INPUT: true; the input reads as it did. -/
def fnExactBoxesOverlapSpec : ChangeSpec := { name := "fnExactBoxesOverlap", fn := fun _ => fun
  | [d1, d2] => { results := [.lit (.bool true)], args := [d1, d2] }
  | _ => none }
def fnExactBoxesOverlapRow : OpenClaim := { program := "ytcmkmioojmeafaa", sum := "d61ed2b587df8823ff9c5445be6665371fa54dc78bba0e847fde97d5bddc1676", func := "loop.example/g00809/laws.FnExactBoxesOverlap", spec := "fnExactBoxesOverlap", unfollowed := true, recurses := true, apart := false }
def FnExactBoxesOverlapSaid : Prop := fnExactBoxesOverlapRow.holds Try.pinned (OpenSpec.ofChange fnExactBoxesOverlapSpec)

/-- ITS FALSE NEIGHBOUR: 'it returns false'. Refute it at one input. -/
def fnExactBoxesOverlapWrong : ChangeSpec := { name := "fnExactBoxesOverlap", fn := fun _ => fun
  | [d1, d2] => { results := [.lit (.bool false)], args := [d1, d2] }
  | _ => none }
def FnExactBoxesOverlapWrongFalsely : Prop := fnExactBoxesOverlapRow.holds Try.pinned (OpenSpec.ofChange fnExactBoxesOverlapWrong)

/-- 'laws.FnExactIdentity': WHATEVER THE INPUT: true; the input reads as it did. -/
def fnExactIdentitySpec : ChangeSpec := { name := "fnExactIdentity", fn := fun _ => fun
  | [] => { results := [.lit (.bool true)], args := [] }
  | _ => none }
def fnExactIdentityRow : OpenClaim := { program := "ytcmkmioojmeafaa", sum := "d61ed2b587df8823ff9c5445be6665371fa54dc78bba0e847fde97d5bddc1676", func := "loop.example/g00809/laws.FnExactIdentity", spec := "fnExactIdentity", apart := false }
def FnExactIdentitySaid : Prop := fnExactIdentityRow.holds Try.pinned (OpenSpec.ofChange fnExactIdentitySpec)

/-- ITS FALSE NEIGHBOUR: 'it returns false'. Refute it at one input. -/
def fnExactIdentityWrong : ChangeSpec := { name := "fnExactIdentity", fn := fun _ => fun
  | [] => { results := [.lit (.bool false)], args := [] }
  | _ => none }
def FnExactIdentityWrongFalsely : Prop := fnExactIdentityRow.holds Try.pinned (OpenSpec.ofChange fnExactIdentityWrong)

/-- 'laws.FnExactDot': WHATEVER THE INPUT: true; the input reads as it did. -/
def fnExactDotSpec : ChangeSpec := { name := "fnExactDot", fn := fun _ => fun
  | [d1, d2] => { results := [.lit (.bool true)], args := [d1, d2] }
  | _ => none }
def fnExactDotRow : OpenClaim := { program := "ytcmkmioojmeafaa", sum := "d61ed2b587df8823ff9c5445be6665371fa54dc78bba0e847fde97d5bddc1676", func := "loop.example/g00809/laws.FnExactDot", spec := "fnExactDot", unfollowed := true, recurses := true, apart := false }
def FnExactDotSaid : Prop := fnExactDotRow.holds Try.pinned (OpenSpec.ofChange fnExactDotSpec)

/-- ITS FALSE NEIGHBOUR: 'it returns false'. Refute it at one input. -/
def fnExactDotWrong : ChangeSpec := { name := "fnExactDot", fn := fun _ => fun
  | [d1, d2] => { results := [.lit (.bool false)], args := [d1, d2] }
  | _ => none }
def FnExactDotWrongFalsely : Prop := fnExactDotRow.holds Try.pinned (OpenSpec.ofChange fnExactDotWrong)

/-- 'laws.FnExactIsValidBox': WHATEVER THE INPUT: true; the input reads as it did. -/
def fnExactIsValidBoxSpec : ChangeSpec := { name := "fnExactIsValidBox", fn := fun _ => fun
  | [d] => { results := [.lit (.bool true)], args := [d] }
  | _ => none }
def fnExactIsValidBoxRow : OpenClaim := { program := "ytcmkmioojmeafaa", sum := "d61ed2b587df8823ff9c5445be6665371fa54dc78bba0e847fde97d5bddc1676", func := "loop.example/g00809/laws.FnExactIsValidBox", spec := "fnExactIsValidBox", unfollowed := true, recurses := true, apart := false }
def FnExactIsValidBoxSaid : Prop := fnExactIsValidBoxRow.holds Try.pinned (OpenSpec.ofChange fnExactIsValidBoxSpec)

/-- ITS FALSE NEIGHBOUR: 'it returns false'. Refute it at one input. -/
def fnExactIsValidBoxWrong : ChangeSpec := { name := "fnExactIsValidBox", fn := fun _ => fun
  | [d] => { results := [.lit (.bool false)], args := [d] }
  | _ => none }
def FnExactIsValidBoxWrongFalsely : Prop := fnExactIsValidBoxRow.holds Try.pinned (OpenSpec.ofChange fnExactIsValidBoxWrong)

/-- 'laws.FnExactAdd': WHATEVER THE INPUT: true; the input reads as it did. -/
def fnExactAddSpec : ChangeSpec := { name := "fnExactAdd", fn := fun _ => fun
  | [d1, d2] => { results := [.lit (.bool true)], args := [d1, d2] }
  | _ => none }
def fnExactAddRow : OpenClaim := { program := "ytcmkmioojmeafaa", sum := "d61ed2b587df8823ff9c5445be6665371fa54dc78bba0e847fde97d5bddc1676", func := "loop.example/g00809/laws.FnExactAdd", spec := "fnExactAdd", unfollowed := true, recurses := true, apart := false }
def FnExactAddSaid : Prop := fnExactAddRow.holds Try.pinned (OpenSpec.ofChange fnExactAddSpec)

/-- ITS FALSE NEIGHBOUR: 'it returns false'. Refute it at one input. -/
def fnExactAddWrong : ChangeSpec := { name := "fnExactAdd", fn := fun _ => fun
  | [d1, d2] => { results := [.lit (.bool false)], args := [d1, d2] }
  | _ => none }
def FnExactAddWrongFalsely : Prop := fnExactAddRow.holds Try.pinned (OpenSpec.ofChange fnExactAddWrong)

/- THE SECOND FORM. 'bulk': how many values and letters a reading holds, each counted each time it is reached (what is shared counts as often as it is met; a slice's spare places count too). A statement '..UptoSaid' is the law's where the arguments, and the package variables that the reading takes, are together of bulk at most 1048576: NARROWER than '..Said'. Prove '..Said' where nothing that the law and all that it calls make is longer than what came in: it says more and counts as full. Else prove '..UptoSaid'. A law counts once. -/
mutual
def uptoBulk {H : Type} : DataW H → Nat
  | .lit (.string bytes) => bytes.length + 1
  | .lit _ => 1
  | .nil => 1
  | .ptr d => uptoBulk d + 1
  | .slice elems spare => uptoBulkAll elems + uptoBulkAll spare + 1
  | .agg parts => uptoBulkAll parts + 1
  | .iface _ d => uptoBulk d + 1
  | .map entries => uptoBulkEntries entries + 1
  | .held _ => 1
def uptoBulkAll {H : Type} : List (DataW H) → Nat
  | [] => 0
  | d :: r => uptoBulk d + uptoBulkAll r
def uptoBulkEntries {H : Type} : List (Lit × DataW H) → Nat
  | [] => 0
  | x :: r => uptoBulkEntry x + uptoBulkEntries r
def uptoBulkEntry {H : Type} : Lit × DataW H → Nat
  | (.string bytes, d) => bytes.length + uptoBulk d + 1
  | (_, d) => uptoBulk d + 1
 end
def uptoSmall : (H : Type) → List (DataW H) → Bool := fun _ ds => decide (uptoBulkAll ds ≤ 1048576)
def OpenSpec.upto (s : _root_.Go.ChangeSpec) : _root_.Go.OpenSpec := { _root_.Go.OpenSpec.ofChange s with cond := some uptoSmall }

/-- 'laws.FnExactConstants', WHERE WHAT IT READS IS OF BULK AT MOST 1048576: true; the input reads as it did. -/
def fnExactConstantsUptoRow : OpenClaim := { program := "ytcmkmioojmeafaa", sum := "d61ed2b587df8823ff9c5445be6665371fa54dc78bba0e847fde97d5bddc1676", func := "loop.example/g00809/laws.FnExactConstants", spec := "fnExactConstants", apart := false, narrowed := true }
def FnExactConstantsUptoSaid : Prop := fnExactConstantsUptoRow.holds Try.pinned (OpenSpec.upto fnExactConstantsSpec)

/-- 'laws.FnExactClamp', WHERE WHAT IT READS IS OF BULK AT MOST 1048576: true; the input reads as it did. -/
def fnExactClampUptoRow : OpenClaim := { program := "ytcmkmioojmeafaa", sum := "d61ed2b587df8823ff9c5445be6665371fa54dc78bba0e847fde97d5bddc1676", func := "loop.example/g00809/laws.FnExactClamp", spec := "fnExactClamp", apart := false, narrowed := true }
def FnExactClampUptoSaid : Prop := fnExactClampUptoRow.holds Try.pinned (OpenSpec.upto fnExactClampSpec)

/-- 'laws.FnExactIsIdentifier', WHERE WHAT IT READS IS OF BULK AT MOST 1048576: true; the input reads as it did. -/
def fnExactIsIdentifierUptoRow : OpenClaim := { program := "ytcmkmioojmeafaa", sum := "d61ed2b587df8823ff9c5445be6665371fa54dc78bba0e847fde97d5bddc1676", func := "loop.example/g00809/laws.FnExactIsIdentifier", spec := "fnExactIsIdentifier", apart := false, narrowed := true }
def FnExactIsIdentifierUptoSaid : Prop := fnExactIsIdentifierUptoRow.holds Try.pinned (OpenSpec.upto fnExactIsIdentifierSpec)

/-- 'laws.FnExactIsValidSubPatch', WHERE WHAT IT READS IS OF BULK AT MOST 1048576: true; the input reads as it did. -/
def fnExactIsValidSubPatchUptoRow : OpenClaim := { program := "ytcmkmioojmeafaa", sum := "d61ed2b587df8823ff9c5445be6665371fa54dc78bba0e847fde97d5bddc1676", func := "loop.example/g00809/laws.FnExactIsValidSubPatch", spec := "fnExactIsValidSubPatch", apart := false, narrowed := true }
def FnExactIsValidSubPatchUptoSaid : Prop := fnExactIsValidSubPatchUptoRow.holds Try.pinned (OpenSpec.upto fnExactIsValidSubPatchSpec)

/-- 'laws.FnExactFloorDiv', WHERE WHAT IT READS IS OF BULK AT MOST 1048576: true; the input reads as it did. -/
def fnExactFloorDivUptoRow : OpenClaim := { program := "ytcmkmioojmeafaa", sum := "d61ed2b587df8823ff9c5445be6665371fa54dc78bba0e847fde97d5bddc1676", func := "loop.example/g00809/laws.FnExactFloorDiv", spec := "fnExactFloorDiv", apart := false, narrowed := true }
def FnExactFloorDivUptoSaid : Prop := fnExactFloorDivUptoRow.holds Try.pinned (OpenSpec.upto fnExactFloorDivSpec)

/-- 'laws.FnExactBoxContains', WHERE WHAT IT READS IS OF BULK AT MOST 1048576: true; the input reads as it did. -/
def fnExactBoxContainsUptoRow : OpenClaim := { program := "ytcmkmioojmeafaa", sum := "d61ed2b587df8823ff9c5445be6665371fa54dc78bba0e847fde97d5bddc1676", func := "loop.example/g00809/laws.FnExactBoxContains", spec := "fnExactBoxContains", apart := false, narrowed := true }
def FnExactBoxContainsUptoSaid : Prop := fnExactBoxContainsUptoRow.holds Try.pinned (OpenSpec.upto fnExactBoxContainsSpec)

/-- 'laws.FnExactIsValidVec', WHERE WHAT IT READS IS OF BULK AT MOST 1048576: true; the input reads as it did. -/
def fnExactIsValidVecUptoRow : OpenClaim := { program := "ytcmkmioojmeafaa", sum := "d61ed2b587df8823ff9c5445be6665371fa54dc78bba0e847fde97d5bddc1676", func := "loop.example/g00809/laws.FnExactIsValidVec", spec := "fnExactIsValidVec", unfollowed := true, recurses := true, apart := false, narrowed := true }
def FnExactIsValidVecUptoSaid : Prop := fnExactIsValidVecUptoRow.holds Try.pinned (OpenSpec.upto fnExactIsValidVecSpec)

/-- 'laws.FnExactBoxesOverlap', WHERE WHAT IT READS IS OF BULK AT MOST 1048576: true; the input reads as it did. -/
def fnExactBoxesOverlapUptoRow : OpenClaim := { program := "ytcmkmioojmeafaa", sum := "d61ed2b587df8823ff9c5445be6665371fa54dc78bba0e847fde97d5bddc1676", func := "loop.example/g00809/laws.FnExactBoxesOverlap", spec := "fnExactBoxesOverlap", unfollowed := true, recurses := true, apart := false, narrowed := true }
def FnExactBoxesOverlapUptoSaid : Prop := fnExactBoxesOverlapUptoRow.holds Try.pinned (OpenSpec.upto fnExactBoxesOverlapSpec)

/-- 'laws.FnExactIdentity', WHERE WHAT IT READS IS OF BULK AT MOST 1048576: true; the input reads as it did. -/
def fnExactIdentityUptoRow : OpenClaim := { program := "ytcmkmioojmeafaa", sum := "d61ed2b587df8823ff9c5445be6665371fa54dc78bba0e847fde97d5bddc1676", func := "loop.example/g00809/laws.FnExactIdentity", spec := "fnExactIdentity", apart := false, narrowed := true }
def FnExactIdentityUptoSaid : Prop := fnExactIdentityUptoRow.holds Try.pinned (OpenSpec.upto fnExactIdentitySpec)

/-- 'laws.FnExactDot', WHERE WHAT IT READS IS OF BULK AT MOST 1048576: true; the input reads as it did. -/
def fnExactDotUptoRow : OpenClaim := { program := "ytcmkmioojmeafaa", sum := "d61ed2b587df8823ff9c5445be6665371fa54dc78bba0e847fde97d5bddc1676", func := "loop.example/g00809/laws.FnExactDot", spec := "fnExactDot", unfollowed := true, recurses := true, apart := false, narrowed := true }
def FnExactDotUptoSaid : Prop := fnExactDotUptoRow.holds Try.pinned (OpenSpec.upto fnExactDotSpec)

/-- 'laws.FnExactIsValidBox', WHERE WHAT IT READS IS OF BULK AT MOST 1048576: true; the input reads as it did. -/
def fnExactIsValidBoxUptoRow : OpenClaim := { program := "ytcmkmioojmeafaa", sum := "d61ed2b587df8823ff9c5445be6665371fa54dc78bba0e847fde97d5bddc1676", func := "loop.example/g00809/laws.FnExactIsValidBox", spec := "fnExactIsValidBox", unfollowed := true, recurses := true, apart := false, narrowed := true }
def FnExactIsValidBoxUptoSaid : Prop := fnExactIsValidBoxUptoRow.holds Try.pinned (OpenSpec.upto fnExactIsValidBoxSpec)

/-- 'laws.FnExactAdd', WHERE WHAT IT READS IS OF BULK AT MOST 1048576: true; the input reads as it did. -/
def fnExactAddUptoRow : OpenClaim := { program := "ytcmkmioojmeafaa", sum := "d61ed2b587df8823ff9c5445be6665371fa54dc78bba0e847fde97d5bddc1676", func := "loop.example/g00809/laws.FnExactAdd", spec := "fnExactAdd", unfollowed := true, recurses := true, apart := false, narrowed := true }
def FnExactAddUptoSaid : Prop := fnExactAddUptoRow.holds Try.pinned (OpenSpec.upto fnExactAddSpec)

end Rows
end Go.Proofs.Ytcmkmioojmeafaa
