/- Contracts: lists of samples, copies, differences. -/
import Derived.Test.YtjbcanihpcfncaaDoorAa
namespace Go.Proofs.YtjbcanihpcfncaaDoor
open Go.RowKit
theorem info_i64 : (Tryd.prog.info? 2).map (fun i => (i.zero, i.size, i.bytes)) = some (some (.int .i64 0), 1, 8) := by kernel_rfl
theorem new_i64 (w : World) : OwI 2 (w.alloc (.cells #[] 2)) w.heap.size (.slice (some ⟨w.heap.size, 0, none⟩) 0 0) [] := World.ownsRow_made w #[] 0 (Nat.le_refl _) (by decide) rfl
/-- The code of a signal and a range. -/
def rateF (xs : List Int) (ok : Bool) : Int := if sigB xs then (if ok then 0 else 2) else 1
end Go.Proofs.YtjbcanihpcfncaaDoor
