/- Contract: changes applied, by the program. -/
import Derived.Test.YtjbcanihpcfncaaDoorXb
namespace Go.Proofs.YtjbcanihpcfncaaDoor
open Go.RowKit
end Go.Proofs.YtjbcanihpcfncaaDoor
