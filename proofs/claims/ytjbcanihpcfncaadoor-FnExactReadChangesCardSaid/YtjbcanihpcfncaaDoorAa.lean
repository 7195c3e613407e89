/- Contracts of the smallest functions. -/
import Derived.Test.YtjbcanihpcfncaaDoorRows
import Derived.Test.YtjbcanihpcfncaaDoorLb
import Derived.Test.YtjbcanihpcfncaaDoorPl
namespace Go.Proofs.YtjbcanihpcfncaaDoor
open Go.RowKit
set_option maxHeartbeats 400000 in
theorem c_l00In (n a b : Int) (w : World) : Calls Tryd.prog 22 #[.int .i64 n, .int .i64 a, .int .i64 b] w fun e w' => e = .returned (.bool (inB n a b)) ∧ w = w' := by
  by_cases h : a ≤ n
  all_goals
    go_enter Tryd.func22, Tryd.ntmps22
    go_wp2
    go_ret
    exact ⟨by first | (simp [inB, h]; done) | (simp [inB]; omega), rfl⟩
set_option maxHeartbeats 400000 in
theorem c_within (n a b : Int) (w : World) : Calls Tryd.prog 29 #[.int .i64 n, .int .i64 a, .int .i64 b] w fun e w' => e = .returned (.bool (inB n a b)) ∧ w = w' := by
  by_cases h : a ≤ n
  all_goals
    go_enter Tryd.func29, Tryd.ntmps29
    go_wp2
    go_ret
    exact ⟨by first | (simp [inB, h]; done) | (simp [inB]; omega), rfl⟩
end Go.Proofs.YtjbcanihpcfncaaDoor
