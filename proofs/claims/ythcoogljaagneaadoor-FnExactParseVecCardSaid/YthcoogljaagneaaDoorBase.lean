/- Two closed facts of the program that every law's proof uses. -/
import Derived.Test.YthcoogljaagneaaDoorRows
import Derived.Test.YthcoogljaagneaaDoorFrame
namespace Go.Proofs.YthcoogljaagneaaDoor
open Go.ChangeShapes Go.WideShapes Go.ChangeAt Go.RowKit
theorem own : ownKnob Tryd.prog.godebug = none := by kernel_rfl
theorem laidOut : laidOutB Tryd.prog = true := by kernel_rfl
end Go.Proofs.YthcoogljaagneaaDoor
