/- Contracts: the sample of a number, a number out of bits. -/
import Derived.Test.YtpmflkoepnanoaaGreatHc
import Derived.Test.YtpmflkoepnanoaaGreatAa
namespace Go.Proofs.YtpmflkoepnanoaaGreat
open Go.RowKit
set_option maxHeartbeats 400000 in
theorem c_unfold (n : Nat) (w : World) (h : n ≤ 1099511627776) : Calls Tryz.prog 107 #[.int .i64 (n : Int)] w fun e w' => e = .returned (.int .i64 (unfF n)) ∧ w = w' := by
  rcases (show (∃ m, n = 2 * m + 1) ∨ ∃ m, n = 2 * m from by by_cases h2 : n % 2 = 1; exact .inl ⟨n / 2, by omega⟩; exact .inr ⟨n / 2, by omega⟩) with ⟨m, rfl⟩ | ⟨m, rfl⟩
  · have HE := hide (show unfF (2 * m + 1) = -((m : Int) + 1) by unfold unfF; rw [if_pos (by omega)]; omega)
    have HQ := hide (show (2 * (m : Int) + 1 + 1).tdiv 2 = (m : Int) + 1 by rw [Int.tdiv_eq_ediv_of_nonneg (by omega)]; omega)
    go_enter Tryz.func107, Tryz.ntmps107
    go_wp2
    go_ret
    exact ⟨ret_int (by rw [HE.out, HQ.out]; exact IntWalk.wrap64_in _ (by omega)), rfl⟩
  · have HE := hide (show unfF (2 * m) = (m : Int) by unfold unfF; rw [if_neg (by omega)]; omega)
    go_enter Tryz.func107, Tryz.ntmps107
    go_wp2
    go_ret
    exact ⟨ret_int (by rw [HE.out]), rfl⟩
set_option maxHeartbeats 400000 in
theorem c_l29Unfold (n : Nat) (w : World) (h : n ≤ 1099511627776) : Calls Tryz.prog 131 #[.int .i64 (n : Int)] w fun e w' => e = .returned (.int .i64 (unfF n)) ∧ w = w' := by
  rcases (show (∃ m, n = 2 * m + 1) ∨ ∃ m, n = 2 * m from by by_cases h2 : n % 2 = 1; exact .inl ⟨n / 2, by omega⟩; exact .inr ⟨n / 2, by omega⟩) with ⟨m, rfl⟩ | ⟨m, rfl⟩
  · have HE := hide (show unfF (2 * m + 1) = -((m : Int) + 1) by unfold unfF; rw [if_pos (by omega)]; omega)
    have HQ := hide (show (2 * (m : Int) + 1 + 1).tdiv 2 = (m : Int) + 1 by rw [Int.tdiv_eq_ediv_of_nonneg (by omega)]; omega)
    go_enter Tryz.func131, Tryz.ntmps131
    go_wp2
    go_ret
    exact ⟨ret_int (by rw [HE.out, HQ.out]; exact IntWalk.wrap64_in _ (by omega)), rfl⟩
  · have HE := hide (show unfF (2 * m) = (m : Int) by unfold unfF; rw [if_neg (by omega)]; omega)
    go_enter Tryz.func131, Tryz.ntmps131
    go_wp2
    go_ret
    exact ⟨ret_int (by rw [HE.out]), rfl⟩
set_option maxHeartbeats 1000000 in
set_option maxRecDepth 100000 in
theorem c_l29Read_ok (s : ByteArray) (p c : Nat) (w : World) (hb : Bits s.data.toList) (hs : s.size ≤ 1073741824) (h : p + c ≤ s.size) (hc : c ≤ 32) : Calls Tryz.prog 130 #[.string s, .int .i64 (p : Int), .int .i64 (c : Int)] w fun e w' => e = .returned (.tuple #[.int .i64 (readF s.data.toList p c : Int), .bool true]) ∧ Dr w w' := by
  have HBT := hide hb; clear hb
  go_enter Tryz.func130, Tryz.ntmps130
  go_wp2
  go_loopw [8, 9] (fun x i wr => ∃ j : Nat, j ≤ c ∧ i = .int .i64 j ∧ x = .int .i64 (readF s.data.toList p j : Int) ∧ Dr w wr) (fun _ i _ => c - (intOf i).toNat)
  case atStart => exact ⟨0, Nat.zero_le _, rfl, rfl, Dr.refl _⟩
  case round =>
    obtain ⟨j, hj, rfl, rfl, hd⟩ := hrel
    have HDR := hide hd; clear hd
    by_cases hlt : j < c
    · have hlt2 : p + j < s.size := by omega
      have hg := bA_get hlt2
      have hr := readF_lt s.data.toList p j
      have hr2 : readF s.data.toList p j < 4294967296 := Nat.lt_of_lt_of_le hr (Nat.pow_le_pow_right (by omega) (show j ≤ 32 by omega))
      clear hr
      have HS := hide (show readF s.data.toList p (j + 1) = 2 * readF s.data.toList p j + bitN s.data.toList (p + j) from rfl)
      have HBB := hide (bA_bit HBT.out hlt2)
      have hb1 : 48 ≤ bA s (p + j) ∧ bA s (p + j) ≤ 49 := by rcases HBB.out with h | h <;> omega
      have HV := hide (show (2 * (readF s.data.toList p j : Int) + ((bA s (p + j) : Int) - 48)) = (readF s.data.toList p (j + 1) : Int) by rw [HS.out]; rcases HBB.out with h | h <;> (rw [h.1, h.2]; omega))
      generalize readF s.data.toList p j = x at *
      generalize hy : readF s.data.toList p (j + 1) = y at *
      have HY := hide hy; clear hy
      generalize bA s (p + j) = z at *
      clear HS HBB
      go_wp2
      go_roundw
      case rel => exact ⟨j + 1, by omega, by go_num, by rw [HY.out, ← HV.out], by first | exact HDR.out | exact HDR.out.drewN _ | exact HDR.out.drew⟩
      case measure => first | (simp [intOf]; done) | (simp [intOf]; omega)
    · obtain rfl : j = c := by omega
      go_wp2
      go_ret2
      exact ⟨rfl, HDR.out⟩
set_option maxHeartbeats 400000 in
theorem c_l29Read_cut (s : ByteArray) (p c : Nat) (w : World) (hs : s.size ≤ 1073741824) (hp : p ≤ 1073741824) (h : ¬ p + c ≤ s.size) (hc : c ≤ 32) : Calls Tryz.prog 130 #[.string s, .int .i64 (p : Int), .int .i64 (c : Int)] w fun e w' => e = .returned (.tuple #[.int .i64 0, .bool false]) ∧ Dr w w' := by
  go_enter Tryz.func130, Tryz.ntmps130
  go_wp2
  go_ret2
  exact ⟨rfl, Dr.refl _⟩
end Go.Proofs.YtpmflkoepnanoaaGreat
