/- Contracts of the smallest functions. -/
import Derived.Test.YtfifcnojkjjnkaaGreatRows
import Derived.Test.YtfifcnojkjjnkaaGreatLb
import Derived.Test.YtfifcnojkjjnkaaGreatPl
namespace Go.Proofs.YtfifcnojkjjnkaaGreat
open Go.RowKit
set_option maxHeartbeats 400000 in
theorem c_l00In (n a b : Int) (w : World) : Calls Tryz.prog 71 #[.int .i64 n, .int .i64 a, .int .i64 b] w fun e w' => e = .returned (.bool (inB n a b)) ∧ w = w' := by
  by_cases h : a ≤ n
  all_goals
    go_enter Tryz.func71, Tryz.ntmps71
    go_wp2
    go_ret
    exact ⟨by first | (simp [inB, h]; done) | (simp [inB]; omega), rfl⟩
set_option maxHeartbeats 400000 in
theorem c_within (n a b : Int) (w : World) : Calls Tryz.prog 74 #[.int .i64 n, .int .i64 a, .int .i64 b] w fun e w' => e = .returned (.bool (inB n a b)) ∧ w = w' := by
  by_cases h : a ≤ n
  all_goals
    go_enter Tryz.func74, Tryz.ntmps74
    go_wp2
    go_ret
    exact ⟨by first | (simp [inB, h]; done) | (simp [inB]; omega), rfl⟩
theorem c_l01Sample (n : Int) (w : World) : Calls Tryz.prog 205 #[.int .i64 n] w fun e w' => e = .returned (.bool (decide (Smp n))) ∧ w = w' := by
  go_enter Tryz.func205, Tryz.ntmps205
  go_wp2_with (go_at_call 71; refine (c_l00In _ _ _ _).mono ?_; rintro e w' ⟨rfl, rfl⟩)
  go_ret
  exact ⟨rfl, rfl⟩
theorem c_isSample (n : Int) (w : World) : Calls Tryz.prog 206 #[.int .i64 n] w fun e w' => e = .returned (.bool (decide (Smp n))) ∧ w = w' := by
  go_enter Tryz.func206, Tryz.ntmps206
  go_wp2_with (go_at_call 74; refine (c_within _ _ _ _).mono ?_; rintro e w' ⟨rfl, rfl⟩)
  go_ret
  exact ⟨rfl, rfl⟩
set_option maxHeartbeats 400000 in
theorem c_l03Ok (v : Value) (xs : List Int) (w : World) (hr : RdI w v xs) : Calls Tryz.prog 135 #[v] w fun e w' => e = .returned (.bool (sigB xs)) ∧ w = w' := by
  obtain ⟨A, cap, rfl, hl, hc, hx⟩ := hr.open_
  have HX := hide hx; clear hx hr
  by_cases h4 : xs.length ≤ 4000
  · go_enter Tryz.func135, Tryz.ntmps135
    go_wp2
    go_loop [3] (fun i => ∃ k : Nat, k ≤ xs.length ∧ i = .int .i64 k ∧ smpB (xs.take k) = true) (fun i => xs.length - (intOf i).toNat)
    case atStart => exact ⟨0, Nat.zero_le _, rfl, by simp [smpB]⟩
    case round =>
      obtain ⟨k, hk, rfl, hs⟩ := hrel
      have HS := hide hs; clear hs
      by_cases hlt : k < xs.length
      · obtain ⟨b, off, rfl, hb, hcell⟩ := HX.out k xs[k] (List.getElem?_eq_getElem hlt)
        by_cases hsm : Smp xs[k]
        · have hd : decide (Smp xs[k]) = true := by simpa using hsm
          go_wp2_with (go_at_call 205; refine (c_l01Sample _ _).mono ?_; rintro e w' ⟨rfl, rfl⟩)
          go_round
          case rel => exact ⟨k + 1, by omega, by go_num, smpB_take_succ (List.getElem?_eq_getElem hlt) HS.out hsm⟩
          case measure => simp [intOf]; omega
        · have hd : decide (Smp xs[k]) = false := by simpa using hsm
          go_wp2_with (go_at_call 205; refine (c_l01Sample _ _).mono ?_; rintro e w' ⟨rfl, rfl⟩)
          go_ret
          exact ⟨by simp [sigB, smpB_no (List.getElem?_eq_getElem hlt) hsm], rfl⟩
      · go_wp2
        go_ret
        have : k = xs.length := by omega
        subst this
        have := HS.out
        rw [List.take_length] at this
        exact ⟨by simp [sigB, h4, this], rfl⟩
  · go_enter Tryz.func135, Tryz.ntmps135
    go_wp2
    go_ret
    exact ⟨by simp [sigB]; omega, rfl⟩
end Go.Proofs.YtfifcnojkjjnkaaGreat
