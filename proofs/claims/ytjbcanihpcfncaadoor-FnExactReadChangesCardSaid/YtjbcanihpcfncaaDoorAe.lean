/- Contracts: differences of an order; PredictSignal of both sides. -/
import Derived.Test.YtjbcanihpcfncaaDoorAd
import Derived.Deep.RegionWith
namespace Go.Proofs.YtjbcanihpcfncaaDoor
open Go.RowKit
/-- PredictSignal: the differences and the code. -/
def predSigF (xs : List Int) (m : Int) : List Int × Int := if sigB xs then (if inB m 0 3 then (predictF m.toNat xs, 0) else ([], 2)) else ([], 1)
end Go.Proofs.YtjbcanihpcfncaaDoor
