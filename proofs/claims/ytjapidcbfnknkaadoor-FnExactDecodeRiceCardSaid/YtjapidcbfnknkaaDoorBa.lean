/- Contracts: check values, two bytes, the head of a store. -/
import Derived.Test.YtjapidcbfnknkaaDoorAe
import Derived.Deep.RegionWith
namespace Go.Proofs.YtjapidcbfnknkaaDoor
open Go.RowKit
end Go.Proofs.YtjapidcbfnknkaaDoor
