/- ApplyChanges: the law. -/
import Derived.Test.YtjbcanihpcfncaaDoorXe
namespace Go.Proofs.YtjbcanihpcfncaaDoor
open Go.RowKit
theorem roomF_sizes (cs : List Chg) : ∀ n : Int, 0 ≤ n → 0 ≤ roomF n cs → ∀ c ∈ cs, (c.t.size : Int) ≤ n := by
  induction cs with
  | nil => intro n _ _ c hc; simp at hc
  | cons d r ih =>
    intro n h0 h c hc
    simp only [roomF] at h
    split at h
    · omega
    · rcases List.mem_cons.1 hc with rfl | hc
      · omega
      · have := ih (n - d.t.size) (by omega) h c hc; omega
end Go.Proofs.YtjbcanihpcfncaaDoor
