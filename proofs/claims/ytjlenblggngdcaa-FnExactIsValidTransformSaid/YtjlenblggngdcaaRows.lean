/-
  No cell of these rows narrows 'for every input' (looked for: loops, veiled, ifaces, maps, wideKeys, modest, calm, conditions, laid).
  DERIVED. THE GIVEN ROWS OF THIS SEAT. 12 by the template 'for every input the law returns true; each argument reads behind the call as it read before'; 0 by the template 'total and deterministic' (their statements: YtjlenblggngdcaaTotals.lean).
  GIVEN WITH THE SEED: the statements are not yours to turn. If you find one false, say at which input.
  Laid BY PROGRAM, IN A SANDBOX (cutbox-rows.mjs): the forced cells as the released guide's own fill.sh prints them over the translation a854d440b2fdb650… (all of the seat's roots in one cut). By AI agents, Wed Nov 11 2026. No macro, syntax, notation, axiom, sorry.
-/
import Derived.Test.YtjlenblggngdcaaChecked
import GoSem.Claim
import GoSem.ClaimJoined
import GoSem.ClaimMapViews
import Derived.JoinedTies
import Derived.KernelRfl
namespace Go.Proofs.Ytjlenblggngdcaa
/- THE CELL 'sum', in the pinned program and in every row, IS THE sha256 OF THE DUMP (.gsa) THAT YtjlenblggngdcaaProg.lean LOADS. Nothing in Lean hashes anything: it is a label: what it is worth is what the hold of that sum in a sandbox is worth. -/
noncomputable def Try.pinned : Pinned := { name := "ytjlenblggngdcaa", sum := "a854d440b2fdb65070bb2003fd529302e2b290b91d908cc9d415a1766ea60ff2", checked := Try.checked }
namespace Rows
def none {H : Type} : Left H := { results := [], args := [] }

/-- 'laws.FnExactSubVec': WHATEVER THE INPUT: true; the input reads as it did. -/
def fnExactSubVecSpec : ChangeSpec := { name := "fnExactSubVec", fn := fun _ => fun
  | [d1, d2] => { results := [.lit (.bool true)], args := [d1, d2] }
  | _ => none }
def fnExactSubVecRow : OpenClaim := { program := "ytjlenblggngdcaa", sum := "a854d440b2fdb65070bb2003fd529302e2b290b91d908cc9d415a1766ea60ff2", func := "loop.example/g00809/laws.FnExactSubVec", spec := "fnExactSubVec", unfollowed := true, recurses := true, apart := false }
def FnExactSubVecSaid : Prop := fnExactSubVecRow.holds Try.pinned (OpenSpec.ofChange fnExactSubVecSpec)

/-- ITS FALSE NEIGHBOUR: 'it returns false'. Refute it at one input. -/
def fnExactSubVecWrong : ChangeSpec := { name := "fnExactSubVec", fn := fun _ => fun
  | [d1, d2] => { results := [.lit (.bool false)], args := [d1, d2] }
  | _ => none }
def FnExactSubVecWrongFalsely : Prop := fnExactSubVecRow.holds Try.pinned (OpenSpec.ofChange fnExactSubVecWrong)

/-- 'laws.FnExactUniformScale': WHATEVER THE INPUT: true; the input reads as it did. -/
def fnExactUniformScaleSpec : ChangeSpec := { name := "fnExactUniformScale", fn := fun _ => fun
  | [d] => { results := [.lit (.bool true)], args := [d] }
  | _ => none }
def fnExactUniformScaleRow : OpenClaim := { program := "ytjlenblggngdcaa", sum := "a854d440b2fdb65070bb2003fd529302e2b290b91d908cc9d415a1766ea60ff2", func := "loop.example/g00809/laws.FnExactUniformScale", spec := "fnExactUniformScale", apart := false }
def FnExactUniformScaleSaid : Prop := fnExactUniformScaleRow.holds Try.pinned (OpenSpec.ofChange fnExactUniformScaleSpec)

/-- ITS FALSE NEIGHBOUR: 'it returns false'. Refute it at one input. -/
def fnExactUniformScaleWrong : ChangeSpec := { name := "fnExactUniformScale", fn := fun _ => fun
  | [d] => { results := [.lit (.bool false)], args := [d] }
  | _ => none }
def FnExactUniformScaleWrongFalsely : Prop := fnExactUniformScaleRow.holds Try.pinned (OpenSpec.ofChange fnExactUniformScaleWrong)

/-- 'laws.FnExactMaxVec': WHATEVER THE INPUT: true; the input reads as it did. -/
def fnExactMaxVecSpec : ChangeSpec := { name := "fnExactMaxVec", fn := fun _ => fun
  | [d1, d2] => { results := [.lit (.bool true)], args := [d1, d2] }
  | _ => none }
def fnExactMaxVecRow : OpenClaim := { program := "ytjlenblggngdcaa", sum := "a854d440b2fdb65070bb2003fd529302e2b290b91d908cc9d415a1766ea60ff2", func := "loop.example/g00809/laws.FnExactMaxVec", spec := "fnExactMaxVec", unfollowed := true, recurses := true, apart := false }
def FnExactMaxVecSaid : Prop := fnExactMaxVecRow.holds Try.pinned (OpenSpec.ofChange fnExactMaxVecSpec)

/-- ITS FALSE NEIGHBOUR: 'it returns false'. Refute it at one input. -/
def fnExactMaxVecWrong : ChangeSpec := { name := "fnExactMaxVec", fn := fun _ => fun
  | [d1, d2] => { results := [.lit (.bool false)], args := [d1, d2] }
  | _ => none }
def FnExactMaxVecWrongFalsely : Prop := fnExactMaxVecRow.holds Try.pinned (OpenSpec.ofChange fnExactMaxVecWrong)

/-- 'laws.FnExactMinVec': WHATEVER THE INPUT: true; the input reads as it did. -/
def fnExactMinVecSpec : ChangeSpec := { name := "fnExactMinVec", fn := fun _ => fun
  | [d1, d2] => { results := [.lit (.bool true)], args := [d1, d2] }
  | _ => none }
def fnExactMinVecRow : OpenClaim := { program := "ytjlenblggngdcaa", sum := "a854d440b2fdb65070bb2003fd529302e2b290b91d908cc9d415a1766ea60ff2", func := "loop.example/g00809/laws.FnExactMinVec", spec := "fnExactMinVec", unfollowed := true, recurses := true, apart := false }
def FnExactMinVecSaid : Prop := fnExactMinVecRow.holds Try.pinned (OpenSpec.ofChange fnExactMinVecSpec)

/-- ITS FALSE NEIGHBOUR: 'it returns false'. Refute it at one input. -/
def fnExactMinVecWrong : ChangeSpec := { name := "fnExactMinVec", fn := fun _ => fun
  | [d1, d2] => { results := [.lit (.bool false)], args := [d1, d2] }
  | _ => none }
def FnExactMinVecWrongFalsely : Prop := fnExactMinVecRow.holds Try.pinned (OpenSpec.ofChange fnExactMinVecWrong)

/-- 'laws.FnExactIsValidPatch': WHATEVER THE INPUT: true; the input reads as it did. -/
def fnExactIsValidPatchSpec : ChangeSpec := { name := "fnExactIsValidPatch", fn := fun _ => fun
  | [d] => { results := [.lit (.bool true)], args := [d] }
  | _ => none }
def fnExactIsValidPatchRow : OpenClaim := { program := "ytjlenblggngdcaa", sum := "a854d440b2fdb65070bb2003fd529302e2b290b91d908cc9d415a1766ea60ff2", func := "loop.example/g00809/laws.FnExactIsValidPatch", spec := "fnExactIsValidPatch", unfollowed := true, recurses := true, apart := false }
def FnExactIsValidPatchSaid : Prop := fnExactIsValidPatchRow.holds Try.pinned (OpenSpec.ofChange fnExactIsValidPatchSpec)

/-- ITS FALSE NEIGHBOUR: 'it returns false'. Refute it at one input. -/
def fnExactIsValidPatchWrong : ChangeSpec := { name := "fnExactIsValidPatch", fn := fun _ => fun
  | [d] => { results := [.lit (.bool false)], args := [d] }
  | _ => none }
def FnExactIsValidPatchWrongFalsely : Prop := fnExactIsValidPatchRow.holds Try.pinned (OpenSpec.ofChange fnExactIsValidPatchWrong)

/-- 'laws.FnExactIsValidTransform': WHATEVER THE INPUT: true; the input reads as it did. -/
def fnExactIsValidTransformSpec : ChangeSpec := { name := "fnExactIsValidTransform", fn := fun _ => fun
  | [d] => { results := [.lit (.bool true)], args := [d] }
  | _ => none }
def fnExactIsValidTransformRow : OpenClaim := { program := "ytjlenblggngdcaa", sum := "a854d440b2fdb65070bb2003fd529302e2b290b91d908cc9d415a1766ea60ff2", func := "loop.example/g00809/laws.FnExactIsValidTransform", spec := "fnExactIsValidTransform", unfollowed := true, recurses := true, apart := false }
def FnExactIsValidTransformSaid : Prop := fnExactIsValidTransformRow.holds Try.pinned (OpenSpec.ofChange fnExactIsValidTransformSpec)

/-- ITS FALSE NEIGHBOUR: 'it returns false'. Refute it at one input. -/
def fnExactIsValidTransformWrong : ChangeSpec := { name := "fnExactIsValidTransform", fn := fun _ => fun
  | [d] => { results := [.lit (.bool false)], args := [d] }
  | _ => none }
def FnExactIsValidTransformWrongFalsely : Prop := fnExactIsValidTransformRow.holds Try.pinned (OpenSpec.ofChange fnExactIsValidTransformWrong)

/-- 'laws.FnExactHashInts': WHATEVER THE INPUT: true; the input reads as it did. -/
def fnExactHashIntsSpec : ChangeSpec := { name := "fnExactHashInts", fn := fun _ => fun
  | [d] => { results := [.lit (.bool true)], args := [d] }
  | _ => none }
def fnExactHashIntsRow : OpenClaim := { program := "ytjlenblggngdcaa", sum := "a854d440b2fdb65070bb2003fd529302e2b290b91d908cc9d415a1766ea60ff2", func := "loop.example/g00809/laws.FnExactHashInts", spec := "fnExactHashInts", apart := false }
def FnExactHashIntsSaid : Prop := fnExactHashIntsRow.holds Try.pinned (OpenSpec.ofChange fnExactHashIntsSpec)

/-- ITS FALSE NEIGHBOUR: 'it returns false'. Refute it at one input. -/
def fnExactHashIntsWrong : ChangeSpec := { name := "fnExactHashInts", fn := fun _ => fun
  | [d] => { results := [.lit (.bool false)], args := [d] }
  | _ => none }
def FnExactHashIntsWrongFalsely : Prop := fnExactHashIntsRow.holds Try.pinned (OpenSpec.ofChange fnExactHashIntsWrong)

/-- 'laws.FnExactCross': WHATEVER THE INPUT: true; the input reads as it did. -/
def fnExactCrossSpec : ChangeSpec := { name := "fnExactCross", fn := fun _ => fun
  | [d1, d2] => { results := [.lit (.bool true)], args := [d1, d2] }
  | _ => none }
def fnExactCrossRow : OpenClaim := { program := "ytjlenblggngdcaa", sum := "a854d440b2fdb65070bb2003fd529302e2b290b91d908cc9d415a1766ea60ff2", func := "loop.example/g00809/laws.FnExactCross", spec := "fnExactCross", unfollowed := true, recurses := true, apart := false }
def FnExactCrossSaid : Prop := fnExactCrossRow.holds Try.pinned (OpenSpec.ofChange fnExactCrossSpec)

/-- ITS FALSE NEIGHBOUR: 'it returns false'. Refute it at one input. -/
def fnExactCrossWrong : ChangeSpec := { name := "fnExactCross", fn := fun _ => fun
  | [d1, d2] => { results := [.lit (.bool false)], args := [d1, d2] }
  | _ => none }
def FnExactCrossWrongFalsely : Prop := fnExactCrossRow.holds Try.pinned (OpenSpec.ofChange fnExactCrossWrong)

/-- 'laws.FnFloor': WHATEVER THE INPUT: true; the input reads as it did. -/
def fnFloorSpec : ChangeSpec := { name := "fnFloor", fn := fun _ => fun
  | [d] => { results := [.lit (.bool true)], args := [d] }
  | _ => none }
def fnFloorRow : OpenClaim := { program := "ytjlenblggngdcaa", sum := "a854d440b2fdb65070bb2003fd529302e2b290b91d908cc9d415a1766ea60ff2", func := "loop.example/g00809/laws.FnFloor", spec := "fnFloor", apart := false }
def FnFloorSaid : Prop := fnFloorRow.holds Try.pinned (OpenSpec.ofChange fnFloorSpec)

/-- ITS FALSE NEIGHBOUR: 'it returns false'. Refute it at one input. -/
def fnFloorWrong : ChangeSpec := { name := "fnFloor", fn := fun _ => fun
  | [d] => { results := [.lit (.bool false)], args := [d] }
  | _ => none }
def FnFloorWrongFalsely : Prop := fnFloorRow.holds Try.pinned (OpenSpec.ofChange fnFloorWrong)

/-- 'laws.FnExactTranslation': WHATEVER THE INPUT: true; the input reads as it did. -/
def fnExactTranslationSpec : ChangeSpec := { name := "fnExactTranslation", fn := fun _ => fun
  | [d] => { results := [.lit (.bool true)], args := [d] }
  | _ => none }
def fnExactTranslationRow : OpenClaim := { program := "ytjlenblggngdcaa", sum := "a854d440b2fdb65070bb2003fd529302e2b290b91d908cc9d415a1766ea60ff2", func := "loop.example/g00809/laws.FnExactTranslation", spec := "fnExactTranslation", unfollowed := true, recurses := true, apart := false }
def FnExactTranslationSaid : Prop := fnExactTranslationRow.holds Try.pinned (OpenSpec.ofChange fnExactTranslationSpec)

/-- ITS FALSE NEIGHBOUR: 'it returns false'. Refute it at one input. -/
def fnExactTranslationWrong : ChangeSpec := { name := "fnExactTranslation", fn := fun _ => fun
  | [d] => { results := [.lit (.bool false)], args := [d] }
  | _ => none }
def FnExactTranslationWrongFalsely : Prop := fnExactTranslationRow.holds Try.pinned (OpenSpec.ofChange fnExactTranslationWrong)

/-- 'laws.FnExactScale': WHATEVER THE INPUT: true; the input reads as it did. -/
def fnExactScaleSpec : ChangeSpec := { name := "fnExactScale", fn := fun _ => fun
  | [d1, d2, d3] => { results := [.lit (.bool true)], args := [d1, d2, d3] }
  | _ => none }
def fnExactScaleRow : OpenClaim := { program := "ytjlenblggngdcaa", sum := "a854d440b2fdb65070bb2003fd529302e2b290b91d908cc9d415a1766ea60ff2", func := "loop.example/g00809/laws.FnExactScale", spec := "fnExactScale", unfollowed := true, recurses := true, apart := false }
def FnExactScaleSaid : Prop := fnExactScaleRow.holds Try.pinned (OpenSpec.ofChange fnExactScaleSpec)

/-- ITS FALSE NEIGHBOUR: 'it returns false'. Refute it at one input. -/
def fnExactScaleWrong : ChangeSpec := { name := "fnExactScale", fn := fun _ => fun
  | [d1, d2, d3] => { results := [.lit (.bool false)], args := [d1, d2, d3] }
  | _ => none }
def FnExactScaleWrongFalsely : Prop := fnExactScaleRow.holds Try.pinned (OpenSpec.ofChange fnExactScaleWrong)

/-- 'laws.FnExactLerp': WHATEVER THE INPUT: true; the input reads as it did. -/
def fnExactLerpSpec : ChangeSpec := { name := "fnExactLerp", fn := fun _ => fun
  | [d1, d2, d3, d4] => { results := [.lit (.bool true)], args := [d1, d2, d3, d4] }
  | _ => none }
def fnExactLerpRow : OpenClaim := { program := "ytjlenblggngdcaa", sum := "a854d440b2fdb65070bb2003fd529302e2b290b91d908cc9d415a1766ea60ff2", func := "loop.example/g00809/laws.FnExactLerp", spec := "fnExactLerp", unfollowed := true, recurses := true, apart := false }
def FnExactLerpSaid : Prop := fnExactLerpRow.holds Try.pinned (OpenSpec.ofChange fnExactLerpSpec)

/-- ITS FALSE NEIGHBOUR: 'it returns false'. Refute it at one input. -/
def fnExactLerpWrong : ChangeSpec := { name := "fnExactLerp", fn := fun _ => fun
  | [d1, d2, d3, d4] => { results := [.lit (.bool false)], args := [d1, d2, d3, d4] }
  | _ => none }
def FnExactLerpWrongFalsely : Prop := fnExactLerpRow.holds Try.pinned (OpenSpec.ofChange fnExactLerpWrong)

/- THE SECOND FORM. 'bulk': how many values and letters a reading holds, each counted each time it is reached (what is shared counts as often as it is met; a slice's spare places count too). A statement '..UptoSaid' is the law's where the arguments, and the package variables that the reading takes, are together of bulk at most 1048576: NARROWER than '..Said'. Prove '..Said' where nothing that the law and all that it calls make is longer than what came in: it says more and counts as full. Else prove '..UptoSaid'. A law counts once. -/
mutual
def uptoBulk {H : Type} : DataW H → Nat
  | .lit (.string bytes) => bytes.length + 1
  | .lit _ => 1
  | .nil => 1
  | .ptr d => uptoBulk d + 1
  | .slice elems spare => uptoBulkAll elems + uptoBulkAll spare + 1
  | .agg parts => uptoBulkAll parts + 1
  | .iface _ d => uptoBulk d + 1
  | .map entries => uptoBulkEntries entries + 1
  | .held _ => 1
def uptoBulkAll {H : Type} : List (DataW H) → Nat
  | [] => 0
  | d :: r => uptoBulk d + uptoBulkAll r
def uptoBulkEntries {H : Type} : List (Lit × DataW H) → Nat
  | [] => 0
  | x :: r => uptoBulkEntry x + uptoBulkEntries r
def uptoBulkEntry {H : Type} : Lit × DataW H → Nat
  | (.string bytes, d) => bytes.length + uptoBulk d + 1
  | (_, d) => uptoBulk d + 1
 end
def uptoSmall : (H : Type) → List (DataW H) → Bool := fun _ ds => decide (uptoBulkAll ds ≤ 1048576)
def OpenSpec.upto (s : _root_.Go.ChangeSpec) : _root_.Go.OpenSpec := { _root_.Go.OpenSpec.ofChange s with cond := some uptoSmall }

/-- 'laws.FnExactSubVec', WHERE WHAT IT READS IS OF BULK AT MOST 1048576: true; the input reads as it did. -/
def fnExactSubVecUptoRow : OpenClaim := { program := "ytjlenblggngdcaa", sum := "a854d440b2fdb65070bb2003fd529302e2b290b91d908cc9d415a1766ea60ff2", func := "loop.example/g00809/laws.FnExactSubVec", spec := "fnExactSubVec", unfollowed := true, recurses := true, apart := false, narrowed := true }
def FnExactSubVecUptoSaid : Prop := fnExactSubVecUptoRow.holds Try.pinned (OpenSpec.upto fnExactSubVecSpec)

/-- 'laws.FnExactUniformScale', WHERE WHAT IT READS IS OF BULK AT MOST 1048576: true; the input reads as it did. -/
def fnExactUniformScaleUptoRow : OpenClaim := { program := "ytjlenblggngdcaa", sum := "a854d440b2fdb65070bb2003fd529302e2b290b91d908cc9d415a1766ea60ff2", func := "loop.example/g00809/laws.FnExactUniformScale", spec := "fnExactUniformScale", apart := false, narrowed := true }
def FnExactUniformScaleUptoSaid : Prop := fnExactUniformScaleUptoRow.holds Try.pinned (OpenSpec.upto fnExactUniformScaleSpec)

/-- 'laws.FnExactMaxVec', WHERE WHAT IT READS IS OF BULK AT MOST 1048576: true; the input reads as it did. -/
def fnExactMaxVecUptoRow : OpenClaim := { program := "ytjlenblggngdcaa", sum := "a854d440b2fdb65070bb2003fd529302e2b290b91d908cc9d415a1766ea60ff2", func := "loop.example/g00809/laws.FnExactMaxVec", spec := "fnExactMaxVec", unfollowed := true, recurses := true, apart := false, narrowed := true }
def FnExactMaxVecUptoSaid : Prop := fnExactMaxVecUptoRow.holds Try.pinned (OpenSpec.upto fnExactMaxVecSpec)

/-- 'laws.FnExactMinVec', WHERE WHAT IT READS IS OF BULK AT MOST 1048576: true; the input reads as it did. -/
def fnExactMinVecUptoRow : OpenClaim := { program := "ytjlenblggngdcaa", sum := "a854d440b2fdb65070bb2003fd529302e2b290b91d908cc9d415a1766ea60ff2", func := "loop.example/g00809/laws.FnExactMinVec", spec := "fnExactMinVec", unfollowed := true, recurses := true, apart := false, narrowed := true }
def FnExactMinVecUptoSaid : Prop := fnExactMinVecUptoRow.holds Try.pinned (OpenSpec.upto fnExactMinVecSpec)

/-- 'laws.FnExactIsValidPatch', WHERE WHAT IT READS IS OF BULK AT MOST 1048576: true; the input reads as it did. -/
def fnExactIsValidPatchUptoRow : OpenClaim := { program := "ytjlenblggngdcaa", sum := "a854d440b2fdb65070bb2003fd529302e2b290b91d908cc9d415a1766ea60ff2", func := "loop.example/g00809/laws.FnExactIsValidPatch", spec := "fnExactIsValidPatch", unfollowed := true, recurses := true, apart := false, narrowed := true }
def FnExactIsValidPatchUptoSaid : Prop := fnExactIsValidPatchUptoRow.holds Try.pinned (OpenSpec.upto fnExactIsValidPatchSpec)

/-- 'laws.FnExactIsValidTransform', WHERE WHAT IT READS IS OF BULK AT MOST 1048576: true; the input reads as it did. -/
def fnExactIsValidTransformUptoRow : OpenClaim := { program := "ytjlenblggngdcaa", sum := "a854d440b2fdb65070bb2003fd529302e2b290b91d908cc9d415a1766ea60ff2", func := "loop.example/g00809/laws.FnExactIsValidTransform", spec := "fnExactIsValidTransform", unfollowed := true, recurses := true, apart := false, narrowed := true }
def FnExactIsValidTransformUptoSaid : Prop := fnExactIsValidTransformUptoRow.holds Try.pinned (OpenSpec.upto fnExactIsValidTransformSpec)

/-- 'laws.FnExactHashInts', WHERE WHAT IT READS IS OF BULK AT MOST 1048576: true; the input reads as it did. -/
def fnExactHashIntsUptoRow : OpenClaim := { program := "ytjlenblggngdcaa", sum := "a854d440b2fdb65070bb2003fd529302e2b290b91d908cc9d415a1766ea60ff2", func := "loop.example/g00809/laws.FnExactHashInts", spec := "fnExactHashInts", apart := false, narrowed := true }
def FnExactHashIntsUptoSaid : Prop := fnExactHashIntsUptoRow.holds Try.pinned (OpenSpec.upto fnExactHashIntsSpec)

/-- 'laws.FnExactCross', WHERE WHAT IT READS IS OF BULK AT MOST 1048576: true; the input reads as it did. -/
def fnExactCrossUptoRow : OpenClaim := { program := "ytjlenblggngdcaa", sum := "a854d440b2fdb65070bb2003fd529302e2b290b91d908cc9d415a1766ea60ff2", func := "loop.example/g00809/laws.FnExactCross", spec := "fnExactCross", unfollowed := true, recurses := true, apart := false, narrowed := true }
def FnExactCrossUptoSaid : Prop := fnExactCrossUptoRow.holds Try.pinned (OpenSpec.upto fnExactCrossSpec)

/-- 'laws.FnFloor', WHERE WHAT IT READS IS OF BULK AT MOST 1048576: true; the input reads as it did. -/
def fnFloorUptoRow : OpenClaim := { program := "ytjlenblggngdcaa", sum := "a854d440b2fdb65070bb2003fd529302e2b290b91d908cc9d415a1766ea60ff2", func := "loop.example/g00809/laws.FnFloor", spec := "fnFloor", apart := false, narrowed := true }
def FnFloorUptoSaid : Prop := fnFloorUptoRow.holds Try.pinned (OpenSpec.upto fnFloorSpec)

/-- 'laws.FnExactTranslation', WHERE WHAT IT READS IS OF BULK AT MOST 1048576: true; the input reads as it did. -/
def fnExactTranslationUptoRow : OpenClaim := { program := "ytjlenblggngdcaa", sum := "a854d440b2fdb65070bb2003fd529302e2b290b91d908cc9d415a1766ea60ff2", func := "loop.example/g00809/laws.FnExactTranslation", spec := "fnExactTranslation", unfollowed := true, recurses := true, apart := false, narrowed := true }
def FnExactTranslationUptoSaid : Prop := fnExactTranslationUptoRow.holds Try.pinned (OpenSpec.upto fnExactTranslationSpec)

/-- 'laws.FnExactScale', WHERE WHAT IT READS IS OF BULK AT MOST 1048576: true; the input reads as it did. -/
def fnExactScaleUptoRow : OpenClaim := { program := "ytjlenblggngdcaa", sum := "a854d440b2fdb65070bb2003fd529302e2b290b91d908cc9d415a1766ea60ff2", func := "loop.example/g00809/laws.FnExactScale", spec := "fnExactScale", unfollowed := true, recurses := true, apart := false, narrowed := true }
def FnExactScaleUptoSaid : Prop := fnExactScaleUptoRow.holds Try.pinned (OpenSpec.upto fnExactScaleSpec)

/-- 'laws.FnExactLerp', WHERE WHAT IT READS IS OF BULK AT MOST 1048576: true; the input reads as it did. -/
def fnExactLerpUptoRow : OpenClaim := { program := "ytjlenblggngdcaa", sum := "a854d440b2fdb65070bb2003fd529302e2b290b91d908cc9d415a1766ea60ff2", func := "loop.example/g00809/laws.FnExactLerp", spec := "fnExactLerp", unfollowed := true, recurses := true, apart := false, narrowed := true }
def FnExactLerpUptoSaid : Prop := fnExactLerpUptoRow.holds Try.pinned (OpenSpec.upto fnExactLerpSpec)

end Rows
end Go.Proofs.Ytjlenblggngdcaa
