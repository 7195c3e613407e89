/- ChangesText: both sides, the law. -/
import Derived.Test.YtjbcanihpcfncaaDoorYb
import Derived.Test.YtjbcanihpcfncaaDoorXf
namespace Go.Proofs.YtjbcanihpcfncaaDoor
open Go.RowKit
def ctF (cs : List Chg) : ByteArray := if chgS cs then mkS (txtCs cs) else mkS []
end Go.Proofs.YtjbcanihpcfncaaDoor
