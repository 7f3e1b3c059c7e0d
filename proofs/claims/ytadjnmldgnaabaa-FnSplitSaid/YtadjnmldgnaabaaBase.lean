/- Two closed facts of the program that every law's proof uses. -/
import Derived.Test.YtadjnmldgnaabaaRows
import Derived.Test.YtadjnmldgnaabaaFrame
namespace Go.Proofs.Ytadjnmldgnaabaa
open Go.ChangeShapes Go.WideShapes Go.ChangeAt Go.RowKit
theorem own : ownKnob Try.prog.godebug = none := by kernel_rfl
theorem laidOut : laidOutB Try.prog = true := by kernel_rfl
end Go.Proofs.Ytadjnmldgnaabaa
