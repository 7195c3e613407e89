/- Contracts: wrapped numbers, copies, differences. -/
import Derived.Test.YtjbcanihpcfncaaDoorAc
namespace Go.Proofs.YtjbcanihpcfncaaDoor
open Go.RowKit
theorem lessD_at {xs : List Int} {k : Nat} {x b : Int} (hx : xs[k]? = some x) (hb : b = if k = 0 then 0 else xs.getD (k - 1) 0) : wrp (x - b) = lessD xs k := by
  subst hb
  unfold lessD
  rw [List.getD_eq_getElem?_getD (l := xs) (i := k), hx]; rfl
end Go.Proofs.YtjbcanihpcfncaaDoor
