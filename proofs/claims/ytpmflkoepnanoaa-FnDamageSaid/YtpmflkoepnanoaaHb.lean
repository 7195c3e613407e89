/- Contracts: sums in place, the other side. -/
import Derived.Test.YtpmflkoepnanoaaHa
namespace Go.Proofs.Ytpmflkoepnanoaa
open Go.RowKit
end Go.Proofs.Ytpmflkoepnanoaa
