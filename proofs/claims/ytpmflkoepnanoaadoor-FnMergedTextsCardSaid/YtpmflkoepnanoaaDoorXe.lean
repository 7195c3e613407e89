/- Contract: changes applied, by the reference. -/
import Derived.Test.YtpmflkoepnanoaaDoorXd
namespace Go.Proofs.YtpmflkoepnanoaaDoor
open Go.RowKit
end Go.Proofs.YtpmflkoepnanoaaDoor
