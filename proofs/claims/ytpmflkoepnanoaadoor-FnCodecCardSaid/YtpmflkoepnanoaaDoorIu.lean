/- Contracts: bytes as bits. -/
import Derived.Test.YtpmflkoepnanoaaDoorHc
import Derived.Test.YtpmflkoepnanoaaDoorDb
namespace Go.Proofs.YtpmflkoepnanoaaDoor
open Go.RowKit
/-- The bits are a text of 0 and 1. -/
theorem bits_unpk (s : ByteArray) : Bits (mkS (unpkL s)).data.toList := by rw [data_mkS]; exact bits_unpkTo s s.size
theorem size_unpk (s : ByteArray) : (mkS (unpkL s)).size = 8 * s.size := by rw [size_mkS]; exact length_unpkTo s s.size
end Go.Proofs.YtpmflkoepnanoaaDoor
