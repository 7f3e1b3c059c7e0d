/- Contracts of the functions on vectors, continued: MinVec, MaxVec, SubVec. -/
import Derived.Test.YtadjnmldgnaabaaVecW
import Derived.Test.YtadjnmldgnaabaaVec4
namespace Go.Proofs.Ytadjnmldgnaabaa
open Go.RowKit

end Go.Proofs.Ytadjnmldgnaabaa
