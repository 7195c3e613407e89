/- Contracts: check values, two bytes, the head of a store. -/
import Derived.Test.YtpmflkoepnanoaaDoorAe
import Derived.Deep.RegionWith
namespace Go.Proofs.YtpmflkoepnanoaaDoor
open Go.RowKit
end Go.Proofs.YtpmflkoepnanoaaDoor
