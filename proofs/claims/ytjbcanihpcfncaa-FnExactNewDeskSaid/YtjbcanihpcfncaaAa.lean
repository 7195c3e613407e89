/- Contracts of the smallest functions. -/
import Derived.Test.YtjbcanihpcfncaaRows
import Derived.Test.YtjbcanihpcfncaaLb
import Derived.Test.YtjbcanihpcfncaaPl
namespace Go.Proofs.Ytjbcanihpcfncaa
open Go.RowKit
end Go.Proofs.Ytjbcanihpcfncaa
