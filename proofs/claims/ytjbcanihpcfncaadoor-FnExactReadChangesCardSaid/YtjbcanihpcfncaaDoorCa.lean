/- Contracts: lengths of Rice codes, the best parameter, the best order. -/
import Derived.Test.YtjbcanihpcfncaaDoorAe
namespace Go.Proofs.YtjbcanihpcfncaaDoor
open Go.RowKit
end Go.Proofs.YtjbcanihpcfncaaDoor
