/- Contract: changes applied, by the reference. -/
import Derived.Test.YtjbcanihpcfncaaDoorXd
namespace Go.Proofs.YtjbcanihpcfncaaDoor
open Go.RowKit
end Go.Proofs.YtjbcanihpcfncaaDoor
