/- Two closed facts of the program that every law's proof uses. -/
import Derived.Test.YtnibknaemgpjdaaDoorRows
import Derived.Test.YtnibknaemgpjdaaDoorFrame
namespace Go.Proofs.YtnibknaemgpjdaaDoor
open Go.ChangeShapes Go.WideShapes Go.ChangeAt Go.RowKit
theorem own : ownKnob Tryd.prog.godebug = none := by kernel_rfl
theorem laidOut : laidOutB Tryd.prog = true := by kernel_rfl
end Go.Proofs.YtnibknaemgpjdaaDoor
