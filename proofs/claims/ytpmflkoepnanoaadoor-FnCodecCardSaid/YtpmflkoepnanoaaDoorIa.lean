/- Contracts: the sample of a number, a number out of bits. -/
import Derived.Test.YtpmflkoepnanoaaDoorHc
import Derived.Test.YtpmflkoepnanoaaDoorAa
namespace Go.Proofs.YtpmflkoepnanoaaDoor
open Go.RowKit
set_option maxHeartbeats 400000 in
theorem c_unfold (n : Nat) (w : World) (h : n ≤ 1099511627776) : Calls Tryd.prog 67 #[.int .i64 (n : Int)] w fun e w' => e = .returned (.int .i64 (unfF n)) ∧ w = w' := by
  rcases (show (∃ m, n = 2 * m + 1) ∨ ∃ m, n = 2 * m from by by_cases h2 : n % 2 = 1; exact .inl ⟨n / 2, by omega⟩; exact .inr ⟨n / 2, by omega⟩) with ⟨m, rfl⟩ | ⟨m, rfl⟩
  · have HE := hide (show unfF (2 * m + 1) = -((m : Int) + 1) by unfold unfF; rw [if_pos (by omega)]; omega)
    have HQ := hide (show (2 * (m : Int) + 1 + 1).tdiv 2 = (m : Int) + 1 by rw [Int.tdiv_eq_ediv_of_nonneg (by omega)]; omega)
    go_enter Tryd.func67, Tryd.ntmps67
    go_wp2
    go_ret
    exact ⟨ret_int (by rw [HE.out, HQ.out]; exact IntWalk.wrap64_in _ (by omega)), rfl⟩
  · have HE := hide (show unfF (2 * m) = (m : Int) by unfold unfF; rw [if_neg (by omega)]; omega)
    go_enter Tryd.func67, Tryd.ntmps67
    go_wp2
    go_ret
    exact ⟨ret_int (by rw [HE.out]), rfl⟩
end Go.Proofs.YtpmflkoepnanoaaDoor
