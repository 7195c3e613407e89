/- Contracts: marks held, equal slices of strings. -/
import Derived.Test.YtpmflkoepnanoaaVd
import Derived.Test.YtpmflkoepnanoaaUx
namespace Go.Proofs.Ytpmflkoepnanoaa
open Go.RowKit
theorem str_self (s : ByteArray) : (s.toList == s.toList) = true := by simp
set_option maxHeartbeats 1000000 in
set_option maxRecDepth 20000 in
theorem c_heldSS (v : Value) (n m : Nat) (w : World) (hr : RdS w v (mrks m n)) (h0 : 0 < m) (hm : m + n ≤ 4611686018427387904) :
    Calls Try.prog 10 #[v, .int .i64 m] w fun e w' => e = .returned (.int .i64 ((m + n : Nat) : Int)) ∧ Below w.heap.size w w' := by
  obtain ⟨A, cap, rfl, hl, hc, hx⟩ := hr.openS
  have HX := hide hx; clear hx hr
  rw [length_mrks] at hl ⊢
  go_enter Try.func10, Try.ntmps10
  go_wp2
  go_loopw [1, 5] (fun t i wr => ∃ k : Nat, k ≤ n ∧ i = .int .i64 k ∧ t = .int .i64 ((m + k : Nat) : Int) ∧ Below w.heap.size w wr) (fun _ i _ => n - (intOf i).toNat)
  case atStart => exact ⟨0, Nat.zero_le _, rfl, rfl, Below.refl _ _⟩
  case round =>
    obtain ⟨k, hk, rfl, rfl, hb⟩ := hrel
    have HB := hide hb; clear hb
    by_cases hlt : k < n
    · obtain ⟨b, off, rfl, hbw, e0⟩ := HX.out k _ (mrks_at hlt)
      have d0 := (HB.out.cell hbw).trans e0
      have hbr : b < wr.heap.size := Nat.lt_of_lt_of_le hbw HB.out.size
      clear e0
      go_wp2
      go_region_held3 (fun w' => w'.cell? ⟨b, off + k, none⟩ = some (.string (mrkB (m + k)))) (first | go_keep | (refine (hb3.cell ?_).trans ?_ <;> first | assumption | (simp [*]; done) | (simp; omega))) (first | (go_at_call 31; refine (c_markText (m + k) _ (by omega) (by omega)).mono ?_; rintro e w3 ⟨rfl, hb3⟩))
      have hb4 : Below w.heap.size w w3 := bthen HB.out HB.out.size (by first | exact hb3 | exact undrew hb3 | exact undrewN hb3)
      have HB4 := hide hb4; clear hb4 hb3
      have hse := str_self (mrkB (m + k))
      go_wp2
      go_roundw
      case rel => exact ⟨k + 1, by omega, by go_num, by go_num, (by first | exact HB4.out | exact undrew HB4.out | exact Below.drew HB4.out | exact Below.drew (undrew HB4.out) | exact undrewN HB4.out | exact below_drewN HB4.out _)⟩
      case measure => simp [intOf]; omega
    · obtain rfl : k = n := by omega
      go_wp2
      go_ret
      exact ⟨rfl, HB.out⟩
set_option maxHeartbeats 1000000 in
set_option maxRecDepth 20000 in
theorem c_eqSS (v1 v2 : Value) (xs : List ByteArray) (w : World) (hr1 : RdS w v1 xs) (hr2 : RdS w v2 xs) : Calls Try.prog 8 #[v1, v2] w fun e w' => e = .returned (.bool true) ∧ Below w.heap.size w w' := by
  obtain ⟨A1, cap1, rfl, hl1, hc1, hx1⟩ := hr1.openS
  obtain ⟨A2, cap2, rfl, hl2, hc2, hx2⟩ := hr2.openS
  have HX1 := hide hx1; have HX2 := hide hx2; clear hx1 hx2 hr1 hr2
  go_enter Try.func8, Try.ntmps8
  go_wp2
  go_loopw [5] (fun i wr => ∃ k : Nat, k ≤ xs.length ∧ i = .int .i64 k ∧ Dr w wr) (fun i _ => xs.length - (intOf i).toNat)
  case atStart => exact ⟨0, Nat.zero_le _, rfl, Dr.refl _⟩
  case round =>
    obtain ⟨k, hk, rfl, nr, rfl⟩ := hrel
    by_cases hlt : k < xs.length
    · obtain ⟨b1, o1, rfl, hb1, e0⟩ := HX1.out k xs[k] (List.getElem?_eq_getElem hlt)
      obtain ⟨b2, o2, rfl, hb2, e1⟩ := HX2.out k xs[k] (List.getElem?_eq_getElem hlt)
      generalize xs[k] = x at *
      have hse := str_self x
      go_wp2
      go_quiet (fail)
      go_wp2
      go_roundw
      case rel => exact ⟨k + 1, by omega, by go_num, (by repeat (first | exact Dr.refl _ | exact ⟨_, rfl⟩ | refine Dr.drewN ?_ _ | refine Dr.drew ?_))⟩
      case measure => simp [intOf]; omega
    · go_wp2
      go_ret
      exact ⟨rfl, Dr.to_below (by repeat (first | exact Dr.refl _ | exact ⟨_, rfl⟩ | refine Dr.drewN ?_ _ | refine Dr.drew ?_)) _⟩
end Go.Proofs.Ytpmflkoepnanoaa
