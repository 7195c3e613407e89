/- Contract: changes applied, by the program. -/
import Derived.Test.YtpmflkoepnanoaaDoorXb
namespace Go.Proofs.YtpmflkoepnanoaaDoor
open Go.RowKit
end Go.Proofs.YtpmflkoepnanoaaDoor
