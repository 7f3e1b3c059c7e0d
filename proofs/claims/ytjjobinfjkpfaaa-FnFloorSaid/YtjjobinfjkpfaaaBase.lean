/- Two closed facts of the program that every law's proof uses. -/
import Derived.Test.YtjjobinfjkpfaaaRows
import Derived.Test.YtjjobinfjkpfaaaFrame
namespace Go.Proofs.Ytjjobinfjkpfaaa
open Go.ChangeShapes Go.WideShapes Go.ChangeAt Go.RowKit
theorem own : ownKnob Try.prog.godebug = none := by kernel_rfl
theorem laidOut : laidOutB Try.prog = true := by kernel_rfl
end Go.Proofs.Ytjjobinfjkpfaaa
