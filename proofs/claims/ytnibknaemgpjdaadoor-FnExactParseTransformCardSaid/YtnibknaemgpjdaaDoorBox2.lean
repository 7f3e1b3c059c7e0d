/- Contracts of the functions on boxes, continued: IsValidBox, BoxesOverlap. -/
import Derived.Test.YtnibknaemgpjdaaDoorBox
import Derived.Test.YtnibknaemgpjdaaDoorVecW
import Derived.Deep.LoopGhost
namespace Go.Proofs.YtnibknaemgpjdaaDoor
open Go.RowKit

/-- A valid box. -/
def vbB (a b c d e f : Int) : Bool := vb a b c && (vb d e f && leB a b c d e f)
/-- Two boxes overlap. -/
def ovB (a b c d e f a' b' c' d' e' f' : Int) : Bool := leB (mxZ a a') (mxZ b b') (mxZ c c') (mnZ d d') (mnZ e e') (mnZ f f')

end Go.Proofs.YtnibknaemgpjdaaDoor
