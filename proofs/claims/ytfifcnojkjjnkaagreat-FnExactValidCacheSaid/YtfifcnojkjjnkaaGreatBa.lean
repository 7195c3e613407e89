/- Contracts: check values, two bytes, the head of a store. -/
import Derived.Test.YtfifcnojkjjnkaaGreatAe
import Derived.Deep.RegionWith
namespace Go.Proofs.YtfifcnojkjjnkaaGreat
open Go.RowKit
end Go.Proofs.YtfifcnojkjjnkaaGreat
