/- SubVec, of the program and of the reference. -/
import Derived.Test.YtadjnmldgnaabaaVec4
namespace Go.Proofs.Ytadjnmldgnaabaa
open Go.RowKit

end Go.Proofs.Ytadjnmldgnaabaa
