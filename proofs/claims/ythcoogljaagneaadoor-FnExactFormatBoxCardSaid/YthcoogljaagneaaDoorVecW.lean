/- Contracts of the functions on vectors, continued: products, the smaller and the greater, component by component. -/
import Derived.Test.YthcoogljaagneaaDoorVec2
namespace Go.Proofs.YthcoogljaagneaaDoor
open Go.RowKit

end Go.Proofs.YthcoogljaagneaaDoor
