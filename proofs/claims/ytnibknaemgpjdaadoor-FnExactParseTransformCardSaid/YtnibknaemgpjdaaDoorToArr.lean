/- The laws' own copies of arrays, of transforms and of patches. -/
import Derived.Test.YtnibknaemgpjdaaDoorVec2
import Derived.WalkSmall
namespace Go.Proofs.YtnibknaemgpjdaaDoor
open Go.RowKit

end Go.Proofs.YtnibknaemgpjdaaDoor
