/-
  DERIVED. GIVEN WITH THE SEED: THE CARDS: each row of YthcoogljaagneaaDoorRows.lean that lists a variable, with what it lists TIED to the program's text (the seventh form; the later family's looks); each row that meets fmt, with fmt's text TOLD by the authors' own Lean function (tested against real Go, not proved from fmt's source: count such statements apart). THE CARD IS WHAT COUNTS. Prove the row's statement (the work); the ties are given (YthcoogljaagneaaDoorTie.lean); close each card by the builder's one call (the guide's Derived/Test/ToyasCard.lean, 'card_holds'). Laid BY PROGRAM, IN A SANDBOX (cutbox-door.mjs). By AI agents, Wed Nov 11 2026. No macro, syntax, notation, axiom, sorry.
-/
import Derived.Test.YthcoogljaagneaaDoorRows
import GoSem.ClaimSeven
namespace Go.Proofs.YthcoogljaagneaaDoor
namespace Rows

/-- THE TIED CARD OF 'laws.FnExactFormatInt'. -/
def fnExactFormatIntCard : Claim7 := { stood := { row := fnExactFormatIntRow, standIns := [], harness := (true, "820ebab531ab26d24060ddddf7563bad2c06b73fb1c05e3b9bc0a2ce0b3faee4"), looks := true }, kinds := [], alts := [], laidByText := true, laidKinds := [.data, .data, .data], laidTests := true, laidLooks := .later }
def FnExactFormatIntCardSaid : Prop := Claim7.holds Tryd.pinned (.plain (OpenSpec.ofChange fnExactFormatIntSpec)) fnExactFormatIntCard

/-- THE TIED CARD OF 'laws.FnExactFormatInts'. -/
def fnExactFormatIntsCard : Claim7 := { stood := { row := fnExactFormatIntsRow, standIns := [], harness := (true, "820ebab531ab26d24060ddddf7563bad2c06b73fb1c05e3b9bc0a2ce0b3faee4"), looks := true }, kinds := [], alts := [], laidByText := true, laidKinds := [.data, .data, .data], laidTests := true, laidLooks := .later }
def FnExactFormatIntsCardSaid : Prop := Claim7.holds Tryd.pinned (.plain (OpenSpec.ofChange fnExactFormatIntsSpec)) fnExactFormatIntsCard

/-- THE TIED CARD OF 'laws.FnExactFormatVec'. -/
def fnExactFormatVecCard : Claim7 := { stood := { row := fnExactFormatVecRow, standIns := [], harness := (true, "820ebab531ab26d24060ddddf7563bad2c06b73fb1c05e3b9bc0a2ce0b3faee4"), looks := true }, kinds := [], alts := [], laidByText := true, laidKinds := [.data, .data, .data], laidTests := true, laidLooks := .later }
def FnExactFormatVecCardSaid : Prop := Claim7.holds Tryd.pinned (.plain (OpenSpec.ofChange fnExactFormatVecSpec)) fnExactFormatVecCard

/-- THE TIED CARD OF 'laws.FnExactFormatBox'. -/
def fnExactFormatBoxCard : Claim7 := { stood := { row := fnExactFormatBoxRow, standIns := [], harness := (true, "820ebab531ab26d24060ddddf7563bad2c06b73fb1c05e3b9bc0a2ce0b3faee4"), looks := true }, kinds := [], alts := [], laidByText := true, laidKinds := [.data, .data, .data], laidTests := true, laidLooks := .later }
def FnExactFormatBoxCardSaid : Prop := Claim7.holds Tryd.pinned (.plain (OpenSpec.ofChange fnExactFormatBoxSpec)) fnExactFormatBoxCard

/-- THE TIED CARD OF 'laws.FnExactFormatTransform'. -/
def fnExactFormatTransformCard : Claim7 := { stood := { row := fnExactFormatTransformRow, standIns := [], harness := (true, "820ebab531ab26d24060ddddf7563bad2c06b73fb1c05e3b9bc0a2ce0b3faee4"), looks := true }, kinds := [], alts := [], laidByText := true, laidKinds := [.data, .data, .data], laidTests := true, laidLooks := .later }
def FnExactFormatTransformCardSaid : Prop := Claim7.holds Tryd.pinned (.plain (OpenSpec.ofChange fnExactFormatTransformSpec)) fnExactFormatTransformCard

/-- THE TIED CARD OF 'laws.FnExactFormatPatch'. -/
def fnExactFormatPatchCard : Claim7 := { stood := { row := fnExactFormatPatchRow, standIns := [], harness := (true, "820ebab531ab26d24060ddddf7563bad2c06b73fb1c05e3b9bc0a2ce0b3faee4"), looks := true }, kinds := [], alts := [], laidByText := true, laidKinds := [.data, .data, .data], laidTests := true, laidLooks := .later }
def FnExactFormatPatchCardSaid : Prop := Claim7.holds Tryd.pinned (.plain (OpenSpec.ofChange fnExactFormatPatchSpec)) fnExactFormatPatchCard

/-- THE TIED CARD OF 'laws.FnExactParseInt'. -/
def fnExactParseIntCard : Claim7 := { stood := { row := fnExactParseIntRow, standIns := [], harness := (true, "820ebab531ab26d24060ddddf7563bad2c06b73fb1c05e3b9bc0a2ce0b3faee4"), looks := true }, kinds := [], alts := [], laidByText := true, laidKinds := [.data, .data, .data, .sentinel, .sentinel], laidTests := true, laidLooks := .later }
def FnExactParseIntCardSaid : Prop := Claim7.holds Tryd.pinned (.plain (OpenSpec.ofChange fnExactParseIntSpec)) fnExactParseIntCard

/-- THE TIED CARD OF 'laws.FnExactParseInts'. -/
def fnExactParseIntsCard : Claim7 := { stood := { row := fnExactParseIntsRow, standIns := [], harness := (true, "820ebab531ab26d24060ddddf7563bad2c06b73fb1c05e3b9bc0a2ce0b3faee4"), looks := true }, kinds := [], alts := [], laidByText := true, laidKinds := [.data, .data, .data, .sentinel, .sentinel], laidTests := true, laidLooks := .later }
def FnExactParseIntsCardSaid : Prop := Claim7.holds Tryd.pinned (.plain (OpenSpec.ofChange fnExactParseIntsSpec)) fnExactParseIntsCard

/-- THE TIED CARD OF 'laws.FnExactParseVec'. -/
def fnExactParseVecCard : Claim7 := { stood := { row := fnExactParseVecRow, standIns := [], harness := (true, "820ebab531ab26d24060ddddf7563bad2c06b73fb1c05e3b9bc0a2ce0b3faee4"), looks := true }, kinds := [], alts := [], laidByText := true, laidKinds := [.data, .data, .data, .sentinel, .sentinel], laidTests := true, laidLooks := .later }
def FnExactParseVecCardSaid : Prop := Claim7.holds Tryd.pinned (.plain (OpenSpec.ofChange fnExactParseVecSpec)) fnExactParseVecCard

/-- THE SECOND FORM's CARD OF 'laws.FnExactFormatInt'. -/
def fnExactFormatIntUptoCard : Claim7 := { stood := { row := fnExactFormatIntUptoRow, standIns := [], harness := (true, "820ebab531ab26d24060ddddf7563bad2c06b73fb1c05e3b9bc0a2ce0b3faee4"), looks := true }, kinds := [], alts := [], laidByText := true, laidKinds := [.data, .data, .data], laidTests := true, laidLooks := .later }
def FnExactFormatIntUptoCardSaid : Prop := Claim7.holds Tryd.pinned (.plain (OpenSpec.upto fnExactFormatIntSpec)) fnExactFormatIntUptoCard

/-- THE SECOND FORM's CARD OF 'laws.FnExactFormatInts'. -/
def fnExactFormatIntsUptoCard : Claim7 := { stood := { row := fnExactFormatIntsUptoRow, standIns := [], harness := (true, "820ebab531ab26d24060ddddf7563bad2c06b73fb1c05e3b9bc0a2ce0b3faee4"), looks := true }, kinds := [], alts := [], laidByText := true, laidKinds := [.data, .data, .data], laidTests := true, laidLooks := .later }
def FnExactFormatIntsUptoCardSaid : Prop := Claim7.holds Tryd.pinned (.plain (OpenSpec.upto fnExactFormatIntsSpec)) fnExactFormatIntsUptoCard

/-- THE SECOND FORM's CARD OF 'laws.FnExactFormatVec'. -/
def fnExactFormatVecUptoCard : Claim7 := { stood := { row := fnExactFormatVecUptoRow, standIns := [], harness := (true, "820ebab531ab26d24060ddddf7563bad2c06b73fb1c05e3b9bc0a2ce0b3faee4"), looks := true }, kinds := [], alts := [], laidByText := true, laidKinds := [.data, .data, .data], laidTests := true, laidLooks := .later }
def FnExactFormatVecUptoCardSaid : Prop := Claim7.holds Tryd.pinned (.plain (OpenSpec.upto fnExactFormatVecSpec)) fnExactFormatVecUptoCard

/-- THE SECOND FORM's CARD OF 'laws.FnExactFormatBox'. -/
def fnExactFormatBoxUptoCard : Claim7 := { stood := { row := fnExactFormatBoxUptoRow, standIns := [], harness := (true, "820ebab531ab26d24060ddddf7563bad2c06b73fb1c05e3b9bc0a2ce0b3faee4"), looks := true }, kinds := [], alts := [], laidByText := true, laidKinds := [.data, .data, .data], laidTests := true, laidLooks := .later }
def FnExactFormatBoxUptoCardSaid : Prop := Claim7.holds Tryd.pinned (.plain (OpenSpec.upto fnExactFormatBoxSpec)) fnExactFormatBoxUptoCard

/-- THE SECOND FORM's CARD OF 'laws.FnExactFormatTransform'. -/
def fnExactFormatTransformUptoCard : Claim7 := { stood := { row := fnExactFormatTransformUptoRow, standIns := [], harness := (true, "820ebab531ab26d24060ddddf7563bad2c06b73fb1c05e3b9bc0a2ce0b3faee4"), looks := true }, kinds := [], alts := [], laidByText := true, laidKinds := [.data, .data, .data], laidTests := true, laidLooks := .later }
def FnExactFormatTransformUptoCardSaid : Prop := Claim7.holds Tryd.pinned (.plain (OpenSpec.upto fnExactFormatTransformSpec)) fnExactFormatTransformUptoCard

/-- THE SECOND FORM's CARD OF 'laws.FnExactFormatPatch'. -/
def fnExactFormatPatchUptoCard : Claim7 := { stood := { row := fnExactFormatPatchUptoRow, standIns := [], harness := (true, "820ebab531ab26d24060ddddf7563bad2c06b73fb1c05e3b9bc0a2ce0b3faee4"), looks := true }, kinds := [], alts := [], laidByText := true, laidKinds := [.data, .data, .data], laidTests := true, laidLooks := .later }
def FnExactFormatPatchUptoCardSaid : Prop := Claim7.holds Tryd.pinned (.plain (OpenSpec.upto fnExactFormatPatchSpec)) fnExactFormatPatchUptoCard

/-- THE SECOND FORM's CARD OF 'laws.FnExactParseInt'. -/
def fnExactParseIntUptoCard : Claim7 := { stood := { row := fnExactParseIntUptoRow, standIns := [], harness := (true, "820ebab531ab26d24060ddddf7563bad2c06b73fb1c05e3b9bc0a2ce0b3faee4"), looks := true }, kinds := [], alts := [], laidByText := true, laidKinds := [.data, .data, .data, .sentinel, .sentinel], laidTests := true, laidLooks := .later }
def FnExactParseIntUptoCardSaid : Prop := Claim7.holds Tryd.pinned (.plain (OpenSpec.upto fnExactParseIntSpec)) fnExactParseIntUptoCard

/-- THE SECOND FORM's CARD OF 'laws.FnExactParseInts'. -/
def fnExactParseIntsUptoCard : Claim7 := { stood := { row := fnExactParseIntsUptoRow, standIns := [], harness := (true, "820ebab531ab26d24060ddddf7563bad2c06b73fb1c05e3b9bc0a2ce0b3faee4"), looks := true }, kinds := [], alts := [], laidByText := true, laidKinds := [.data, .data, .data, .sentinel, .sentinel], laidTests := true, laidLooks := .later }
def FnExactParseIntsUptoCardSaid : Prop := Claim7.holds Tryd.pinned (.plain (OpenSpec.upto fnExactParseIntsSpec)) fnExactParseIntsUptoCard

/-- THE SECOND FORM's CARD OF 'laws.FnExactParseVec'. -/
def fnExactParseVecUptoCard : Claim7 := { stood := { row := fnExactParseVecUptoRow, standIns := [], harness := (true, "820ebab531ab26d24060ddddf7563bad2c06b73fb1c05e3b9bc0a2ce0b3faee4"), looks := true }, kinds := [], alts := [], laidByText := true, laidKinds := [.data, .data, .data, .sentinel, .sentinel], laidTests := true, laidLooks := .later }
def FnExactParseVecUptoCardSaid : Prop := Claim7.holds Tryd.pinned (.plain (OpenSpec.upto fnExactParseVecSpec)) fnExactParseVecUptoCard
end Rows
end Go.Proofs.YthcoogljaagneaaDoor
