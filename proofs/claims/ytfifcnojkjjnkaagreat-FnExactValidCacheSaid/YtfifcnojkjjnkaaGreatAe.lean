/- Contracts: differences of an order; PredictSignal of both sides. -/
import Derived.Test.YtfifcnojkjjnkaaGreatAd
import Derived.Deep.RegionWith
namespace Go.Proofs.YtfifcnojkjjnkaaGreat
open Go.RowKit
set_option maxHeartbeats 400000 in
theorem c_size (v : Value) (xs : List Int) (w : World) (hr : RdI w v xs) : Calls Tryz.prog 138 #[v] w fun e w' => e = .returned (.int .i64 (xs.length : Int)) ∧ w = w' := by
  obtain ⟨A, cap, rfl, hl, hc, hx⟩ := hr.open_
  clear hx hr
  go_enter Tryz.func138, Tryz.ntmps138
  go_wp2
  go_ret
  exact ⟨rfl, rfl⟩
/-- PredictSignal: the differences and the code. -/
def predSigF (xs : List Int) (m : Int) : List Int × Int := if sigB xs then (if inB m 0 3 then (predictF m.toNat xs, 0) else ([], 2)) else ([], 1)
end Go.Proofs.YtfifcnojkjjnkaaGreat
