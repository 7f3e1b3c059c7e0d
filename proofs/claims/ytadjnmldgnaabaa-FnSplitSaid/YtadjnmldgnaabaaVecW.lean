/- Contracts of the functions on vectors, continued: products, the smaller and the greater, component by component. -/
import Derived.Test.YtadjnmldgnaabaaVec2
namespace Go.Proofs.Ytadjnmldgnaabaa
open Go.RowKit

end Go.Proofs.Ytadjnmldgnaabaa
