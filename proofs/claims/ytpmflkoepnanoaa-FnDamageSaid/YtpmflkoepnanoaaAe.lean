/- Contracts: differences of an order; PredictSignal of both sides. -/
import Derived.Test.YtpmflkoepnanoaaAd
import Derived.Deep.RegionWith
namespace Go.Proofs.Ytpmflkoepnanoaa
open Go.RowKit
set_option maxHeartbeats 400000 in
theorem c_size (v : Value) (xs : List Int) (w : World) (hr : RdI w v xs) : Calls Try.prog 76 #[v] w fun e w' => e = .returned (.int .i64 (xs.length : Int)) ∧ w = w' := by
  obtain ⟨A, cap, rfl, hl, hc, hx⟩ := hr.open_
  clear hx hr
  go_enter Try.func76, Try.ntmps76
  go_wp2
  go_ret
  exact ⟨rfl, rfl⟩
set_option maxHeartbeats 800000 in
theorem c_l29Predict (v : Value) (xs : List Int) (m : Nat) (w : World) (hr : RdI w v xs) (hn : xs.length ≤ 1048576) (hm : m ≤ 3) : Calls Try.prog 147 #[v, .int .i64 m] w fun e w' => ∃ v', e = .returned v' ∧ OwI 2 w' w.heap.size v' (predictF m xs) ∧ Below w.heap.size w w' := by
  have HR := hide hr; clear hr
  go_enter Try.func147, Try.ntmps147
  go_wp2_with (go_at_call 165; refine (c_l00Own _ _ _ HR.out hn).mono ?_; rintro e w1 ⟨v1, rfl, ho1, hb1⟩; have HO1 := hide ho1; have HB1 := hide hb1; clear ho1 hb1)
  go_loopw [1, 5] (fun o t wr => ∃ (k : Nat) (ys : List Int), k ≤ 3 ∧ o = .int .i64 k ∧ OwI 2 wr w.heap.size t ys ∧ ys.length = xs.length ∧ predictF k ys = predictF m xs ∧ Below w.heap.size w wr) (fun o _ _ => (intOf o).toNat)
  case atStart => exact ⟨m, xs, hm, rfl, HO1.out, rfl, rfl, HB1.out⟩
  case round =>
    obtain ⟨k, ys, hk, rfl, ho, hl, hp, hb⟩ := hrel
    have HO := hide ho; have HB := hide hb; have HL := hide hl; have HP := hide hp; clear ho hb hl hp
    cases k with
    | zero =>
      go_wp2
      go_ret
      exact ⟨_, rfl, by have := HP.out; rw [← this]; exact HO.out, HB.out⟩
    | succ k =>
      have hlen : ys.length ≤ 1048576 := by have := HL.out; omega
      go_wp2_with (go_at_call 166; refine (c_l29Less _ ys _ HO.out.rd hlen).mono ?_; rintro e w2 ⟨v2, rfl, ho2, hb2⟩; have HO2 := hide ho2; have HB2 := hide hb2; clear ho2 hb2)
      go_roundw
      case rel => exact ⟨k, lessL ys, by omega, by go_num, HO2.out.more HB.out.size, by rw [length_lessL]; exact HL.out, HP.out, HB.out.trans (HB2.out.mono HB.out.size)⟩
      case measure => first | (simp [intOf]; done) | (simp [intOf]; omega)
/-- PredictSignal: the differences and the code. -/
def predSigF (xs : List Int) (m : Int) : List Int × Int := if sigB xs then (if inB m 0 3 then (predictF m.toNat xs, 0) else ([], 2)) else ([], 1)
end Go.Proofs.Ytpmflkoepnanoaa
