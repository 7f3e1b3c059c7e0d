/-
  DERIVED. GIVEN WITH THE SEED: THE CARDS: each row of YtnibknaemgpjdaaDoorRows.lean that lists a variable, with what it lists TIED to the program's text (the seventh form; the later family's looks); each row that meets fmt, with fmt's text TOLD by the authors' own Lean function (tested against real Go, not proved from fmt's source: count such statements apart). THE CARD IS WHAT COUNTS. Prove the row's statement (the work); the ties are given (YtnibknaemgpjdaaDoorTie.lean); close each card by the builder's one call (the guide's Derived/Test/ToyasCard.lean, 'card_holds'). Laid BY PROGRAM, IN A SANDBOX (cutbox-door.mjs). By AI agents, Wed Nov 11 2026. No macro, syntax, notation, axiom, sorry.
-/
import Derived.Test.YtnibknaemgpjdaaDoorRows
import GoSem.ClaimSeven
namespace Go.Proofs.YtnibknaemgpjdaaDoor
namespace Rows

/-- THE TIED CARD OF 'laws.FnExactParsePatch'. -/
def fnExactParsePatchCard : Claim7 := { stood := { row := fnExactParsePatchRow, standIns := [], harness := (true, "ad5e2207cafab0c6256d4ec315da3dc833b2fca6aa2900dd9405e56a89b0dd10"), looks := true }, kinds := [], alts := [], laidByText := true, laidKinds := [.data, .data, .data, .sentinel, .sentinel], laidTests := true, laidLooks := .later }
def FnExactParsePatchCardSaid : Prop := Claim7.holds Tryd.pinned (.plain (OpenSpec.ofChange fnExactParsePatchSpec)) fnExactParsePatchCard

/-- THE TIED CARD OF 'laws.FnExactParseTransform'. -/
def fnExactParseTransformCard : Claim7 := { stood := { row := fnExactParseTransformRow, standIns := [], harness := (true, "ad5e2207cafab0c6256d4ec315da3dc833b2fca6aa2900dd9405e56a89b0dd10"), looks := true }, kinds := [], alts := [], laidByText := true, laidKinds := [.data, .data, .data, .sentinel, .sentinel], laidTests := true, laidLooks := .later }
def FnExactParseTransformCardSaid : Prop := Claim7.holds Tryd.pinned (.plain (OpenSpec.ofChange fnExactParseTransformSpec)) fnExactParseTransformCard

/-- THE TIED CARD OF 'laws.FnWords'. -/
def fnWordsCard : Claim7 := { stood := { row := fnWordsRow, standIns := [], harness := (true, "ad5e2207cafab0c6256d4ec315da3dc833b2fca6aa2900dd9405e56a89b0dd10"), looks := true }, kinds := [], alts := [], laidByText := true, laidKinds := [.data, .data, .data, .sentinel, .sentinel], laidTests := true, laidLooks := .later }
def FnWordsCardSaid : Prop := Claim7.holds Tryd.pinned (.plain (OpenSpec.ofChange fnWordsSpec)) fnWordsCard

/-- THE TIED CARD OF 'laws.FnVectors'. -/
def fnVectorsCard : Claim7 := { stood := { row := fnVectorsRow, standIns := [], harness := (true, "ad5e2207cafab0c6256d4ec315da3dc833b2fca6aa2900dd9405e56a89b0dd10"), looks := true }, kinds := [], alts := [], laidByText := true, laidKinds := [.data, .data, .data, .sentinel, .sentinel], laidTests := true, laidLooks := .later }
def FnVectorsCardSaid : Prop := Claim7.holds Tryd.pinned (.plain (OpenSpec.ofChange fnVectorsSpec)) fnVectorsCard

/-- THE TIED CARD OF 'laws.FnPatches'. -/
def fnPatchesCard : Claim7 := { stood := { row := fnPatchesRow, standIns := [], harness := (true, "ad5e2207cafab0c6256d4ec315da3dc833b2fca6aa2900dd9405e56a89b0dd10"), looks := true }, kinds := [], alts := [], laidByText := true, laidKinds := [.data, .data, .data, .sentinel, .sentinel], laidTests := true, laidLooks := .later }
def FnPatchesCardSaid : Prop := Claim7.holds Tryd.pinned (.plain (OpenSpec.ofChange fnPatchesSpec)) fnPatchesCard

/-- THE SECOND FORM's CARD OF 'laws.FnExactParsePatch'. -/
def fnExactParsePatchUptoCard : Claim7 := { stood := { row := fnExactParsePatchUptoRow, standIns := [], harness := (true, "ad5e2207cafab0c6256d4ec315da3dc833b2fca6aa2900dd9405e56a89b0dd10"), looks := true }, kinds := [], alts := [], laidByText := true, laidKinds := [.data, .data, .data, .sentinel, .sentinel], laidTests := true, laidLooks := .later }
def FnExactParsePatchUptoCardSaid : Prop := Claim7.holds Tryd.pinned (.plain (OpenSpec.upto fnExactParsePatchSpec)) fnExactParsePatchUptoCard

/-- THE SECOND FORM's CARD OF 'laws.FnExactParseTransform'. -/
def fnExactParseTransformUptoCard : Claim7 := { stood := { row := fnExactParseTransformUptoRow, standIns := [], harness := (true, "ad5e2207cafab0c6256d4ec315da3dc833b2fca6aa2900dd9405e56a89b0dd10"), looks := true }, kinds := [], alts := [], laidByText := true, laidKinds := [.data, .data, .data, .sentinel, .sentinel], laidTests := true, laidLooks := .later }
def FnExactParseTransformUptoCardSaid : Prop := Claim7.holds Tryd.pinned (.plain (OpenSpec.upto fnExactParseTransformSpec)) fnExactParseTransformUptoCard

/-- THE SECOND FORM's CARD OF 'laws.FnWords'. -/
def fnWordsUptoCard : Claim7 := { stood := { row := fnWordsUptoRow, standIns := [], harness := (true, "ad5e2207cafab0c6256d4ec315da3dc833b2fca6aa2900dd9405e56a89b0dd10"), looks := true }, kinds := [], alts := [], laidByText := true, laidKinds := [.data, .data, .data, .sentinel, .sentinel], laidTests := true, laidLooks := .later }
def FnWordsUptoCardSaid : Prop := Claim7.holds Tryd.pinned (.plain (OpenSpec.upto fnWordsSpec)) fnWordsUptoCard

/-- THE SECOND FORM's CARD OF 'laws.FnVectors'. -/
def fnVectorsUptoCard : Claim7 := { stood := { row := fnVectorsUptoRow, standIns := [], harness := (true, "ad5e2207cafab0c6256d4ec315da3dc833b2fca6aa2900dd9405e56a89b0dd10"), looks := true }, kinds := [], alts := [], laidByText := true, laidKinds := [.data, .data, .data, .sentinel, .sentinel], laidTests := true, laidLooks := .later }
def FnVectorsUptoCardSaid : Prop := Claim7.holds Tryd.pinned (.plain (OpenSpec.upto fnVectorsSpec)) fnVectorsUptoCard

/-- THE SECOND FORM's CARD OF 'laws.FnPatches'. -/
def fnPatchesUptoCard : Claim7 := { stood := { row := fnPatchesUptoRow, standIns := [], harness := (true, "ad5e2207cafab0c6256d4ec315da3dc833b2fca6aa2900dd9405e56a89b0dd10"), looks := true }, kinds := [], alts := [], laidByText := true, laidKinds := [.data, .data, .data, .sentinel, .sentinel], laidTests := true, laidLooks := .later }
def FnPatchesUptoCardSaid : Prop := Claim7.holds Tryd.pinned (.plain (OpenSpec.upto fnPatchesSpec)) fnPatchesUptoCard
end Rows
end Go.Proofs.YtnibknaemgpjdaaDoor
