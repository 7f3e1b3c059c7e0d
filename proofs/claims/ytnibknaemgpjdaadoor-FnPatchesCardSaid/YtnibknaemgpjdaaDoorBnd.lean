/- BoundPoints of the reference. -/
import Derived.Test.YtnibknaemgpjdaaDoorTri
import Derived.Test.YtnibknaemgpjdaaDoorBoxU
import Derived.Deep.DeepCutAuto
namespace Go.Proofs.YtnibknaemgpjdaaDoor
open Go.RowKit

end Go.Proofs.YtnibknaemgpjdaaDoor
