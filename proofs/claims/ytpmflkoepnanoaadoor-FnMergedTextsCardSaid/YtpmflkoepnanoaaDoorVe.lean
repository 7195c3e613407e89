/- Contracts: marks held, equal slices of strings. -/
import Derived.Test.YtpmflkoepnanoaaDoorVd
import Derived.Test.YtpmflkoepnanoaaDoorUx
namespace Go.Proofs.YtpmflkoepnanoaaDoor
open Go.RowKit
theorem str_self (s : ByteArray) : (s.toList == s.toList) = true := by simp
end Go.Proofs.YtpmflkoepnanoaaDoor
