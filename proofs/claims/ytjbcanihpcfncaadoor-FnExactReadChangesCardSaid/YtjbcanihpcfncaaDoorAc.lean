/- Contracts: equal lists, marks, copies, differences. -/
import Derived.Test.YtjbcanihpcfncaaDoorAb
namespace Go.Proofs.YtjbcanihpcfncaaDoor
open Go.RowKit
/-- The number that 'held' returns. -/
def heldF (xs : List Int) (m : Nat) : Int := if xs = marks m xs.length then ((m + xs.length : Nat) : Int) else -1
end Go.Proofs.YtjbcanihpcfncaaDoor
