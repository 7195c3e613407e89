/- Contracts: sums in place, the other side. -/
import Derived.Test.YtpmflkoepnanoaaDoorHa
namespace Go.Proofs.YtpmflkoepnanoaaDoor
open Go.RowKit
end Go.Proofs.YtpmflkoepnanoaaDoor
