/- Contracts: lengths of Rice codes, the best parameter, the best order. -/
import Derived.Test.YtpmflkoepnanoaaDoorAe
namespace Go.Proofs.YtpmflkoepnanoaaDoor
open Go.RowKit
theorem c_fold (x : Int) (w : World) (h : Smp x) : Calls Tryd.prog 65 #[.int .i64 x] w fun e w' => e = .returned (.int .i64 (foldF x)) ∧ w = w' := by
  unfold Smp at h
  by_cases hx : x < 0
  · have HE := hide (show -2 * x - 1 = foldF x by unfold foldF; rw [if_pos hx])
    go_enter Tryd.func65, Tryd.ntmps65
    go_wp2
    go_ret
    exact ⟨ret_int HE.out, rfl⟩
  · have HE := hide (show 2 * x = foldF x by unfold foldF; rw [if_neg hx])
    go_enter Tryd.func65, Tryd.ntmps65
    go_wp2
    go_ret
    exact ⟨ret_int HE.out, rfl⟩
theorem c_l29Fold (x : Int) (w : World) (h : Smp x) : Calls Tryd.prog 138 #[.int .i64 x] w fun e w' => e = .returned (.int .i64 (foldF x)) ∧ w = w' := by
  unfold Smp at h
  by_cases hx : x < 0
  · have HE := hide (show -2 * x - 1 = foldF x by unfold foldF; rw [if_pos hx])
    go_enter Tryd.func138, Tryd.ntmps138
    go_wp2
    go_ret
    exact ⟨ret_int HE.out, rfl⟩
  · have HE := hide (show 2 * x = foldF x by unfold foldF; rw [if_neg hx])
    go_enter Tryd.func138, Tryd.ntmps138
    go_wp2
    go_ret
    exact ⟨ret_int HE.out, rfl⟩
set_option maxHeartbeats 400000 in
theorem c_l29Bits (x : Int) (k : Nat) (w : World) (h : Smp x) (hk : k ≤ 30) : Calls Tryd.prog 107 #[.int .i64 x, .int .i64 (k : Int)] w fun e w' => e = .returned (.int .i64 (bitsF x k)) ∧ w = w' := by
  have hf := foldF_bd h
  have hq := quoF_bd k h
  have he : foldF x / 2 ^ k = quoF x k := rfl
  by_cases h20 : quoF x k < 20
  · have HE := hide (show quoF x k + 1 + k = bitsF x k by unfold bitsF; rw [if_pos h20])
    go_enter Tryd.func107, Tryd.ntmps107
    go_wp2_with (go_at_call 138; refine (c_l29Fold _ _ h).mono ?_; rintro e w' ⟨rfl, rfl⟩)
    go_ret
    exact ⟨ret_int HE.out, rfl⟩
  · have HE := hide (show 52 = bitsF x k by unfold bitsF; rw [if_neg h20])
    go_enter Tryd.func107, Tryd.ntmps107
    go_wp2_with (go_at_call 138; refine (c_l29Fold _ _ h).mono ?_; rintro e w' ⟨rfl, rfl⟩)
    go_ret
    exact ⟨ret_int HE.out, rfl⟩
set_option maxHeartbeats 400000 in
theorem c_l29Length (v : Value) (xs : List Int) (k : Nat) (w : World) (hr : RdI w v xs) (hs : ∀ x ∈ xs, Smp x) (hn : xs.length ≤ 1048576) (hk : k ≤ 30) : Calls Tryd.prog 63 #[v, .int .i64 (k : Int)] w fun e w' => e = .returned (.int .i64 (lenF xs k)) ∧ w = w' := by
  obtain ⟨A, cap, rfl, hl, hc, hx⟩ := hr.open_
  have HX := hide hx; have HS := hide hs; clear hx hr hs
  go_enter Tryd.func63, Tryd.ntmps63
  go_wp2
  go_loop [5, 6] (fun t i => ∃ j : Nat, j ≤ xs.length ∧ i = .int .i64 j ∧ t = .int .i64 (lenF (xs.take j) k)) (fun _ i => xs.length - (intOf i).toNat)
  case atStart => exact ⟨0, Nat.zero_le _, rfl, rfl⟩
  case round =>
    obtain ⟨j, hj, rfl, rfl⟩ := hrel
    have hb := lenF_bd (xs := xs.take j) (k := k) (fun y hy => HS.out y (List.mem_of_mem_take hy)) hk
    rw [List.length_take] at hb
    by_cases hlt : j < xs.length
    · obtain ⟨b, off, rfl, hbw, hcell⟩ := HX.out j xs[j] (List.getElem?_eq_getElem hlt)
      have hsm := HS.out xs[j] (List.getElem_mem _)
      have hbb := bitsF_bd hsm hk
      have HE := hide (lenF_snoc k (List.getElem?_eq_getElem hlt))
      go_wp2_with (go_at_call 107; refine (c_l29Bits _ _ _ hsm hk).mono ?_; rintro e w' ⟨rfl, rfl⟩)
      go_round
      case rel => exact ⟨j + 1, by omega, by go_num, by rw [HE.out]⟩
      case measure => first | (simp [intOf]; done) | (simp [intOf]; omega)
    · go_wp2
      go_ret
      exact ⟨ret_int (by rw [List.take_of_length_le (by omega)]), rfl⟩
set_option maxHeartbeats 400000 in
theorem c_riceLength (v : Value) (xs : List Int) (k : Nat) (w : World) (hr : RdI w v xs) (hs : ∀ x ∈ xs, Smp x) (hn : xs.length ≤ 1048576) (hk : k ≤ 30) : Calls Tryd.prog 53 #[v, .int .i64 (k : Int)] w fun e w' => e = .returned (.int .i64 (lenF xs k)) ∧ w = w' := by
  obtain ⟨A, cap, rfl, hl, hc, hx⟩ := hr.open_
  have HX := hide hx; have HS := hide hs; clear hx hr hs
  go_enter Tryd.func53, Tryd.ntmps53
  go_wp2
  go_loop [5, 11] (fun t i => ∃ j : Nat, j ≤ xs.length ∧ i = .int .i64 j ∧ t = .int .i64 (lenF (xs.take j) k)) (fun _ i => xs.length - (intOf i).toNat)
  case atStart => exact ⟨0, Nat.zero_le _, rfl, rfl⟩
  case round =>
    obtain ⟨j, hj, rfl, rfl⟩ := hrel
    have hb := lenF_bd (xs := xs.take j) (k := k) (fun y hy => HS.out y (List.mem_of_mem_take hy)) hk
    rw [List.length_take] at hb
    by_cases hlt : j < xs.length
    · obtain ⟨b, off, rfl, hbw, hcell⟩ := HX.out j xs[j] (List.getElem?_eq_getElem hlt)
      have hsm := HS.out xs[j] (List.getElem_mem _)
      have hf := foldF_bd hsm
      have hq := quoF_bd k hsm
      have he : foldF xs[j] / 2 ^ k = quoF xs[j] k := rfl
      have HE := hide (lenF_snoc k (List.getElem?_eq_getElem hlt))
      by_cases h20 : quoF xs[j] k < 20
      · have HB := hide (show bitsF xs[j] k = quoF xs[j] k + 1 + k by unfold bitsF; rw [if_pos h20])
        go_wp2_with (go_at_call 65; refine (c_fold _ _ hsm).mono ?_; rintro e w' ⟨rfl, rfl⟩)
        go_round
        case rel => exact ⟨j + 1, by omega, by go_num, by rw [HE.out, HB.out]⟩
        case measure => first | (simp [intOf]; done) | (simp [intOf]; omega)
      · have HB := hide (show bitsF xs[j] k = 52 by unfold bitsF; rw [if_neg h20])
        go_wp2_with (go_at_call 65; refine (c_fold _ _ hsm).mono ?_; rintro e w' ⟨rfl, rfl⟩)
        go_round
        case rel => exact ⟨j + 1, by omega, by go_num, by rw [HE.out, HB.out]⟩
        case measure => first | (simp [intOf]; done) | (simp [intOf]; omega)
    · go_wp2
      go_ret
      exact ⟨ret_int (by rw [List.take_of_length_le (by omega)]), rfl⟩
set_option maxHeartbeats 400000 in
theorem c_bestRice (v : Value) (xs : List Int) (w : World) (hr : RdI w v xs) (hs : ∀ x ∈ xs, Smp x) (hn : xs.length ≤ 1048576) : Calls Tryd.prog 58 #[v] w fun e w' => e = .returned (.tuple #[.int .i64 ((bestR xs).1 : Int), .int .i64 (bestR xs).2]) ∧ w = w' := by
  have HR := hide hr; have HS := hide hs; clear hr hs
  go_enter Tryd.func58, Tryd.ntmps58
  go_wp2_with fail
  refine (c_riceLength _ xs 0 _ HR.out HS.out hn (by omega)).mono ?_; rintro e w' ⟨rfl, rfl⟩
  go_wp2
  go_loop [4, 5, 6] (fun b l k => ∃ j : Nat, j ≤ 30 ∧ k = .int .i64 ((j + 1 : Nat) : Int) ∧ b = .int .i64 ((bestTo xs j).1 : Int) ∧ l = .int .i64 (bestTo xs j).2) (fun _ _ k => 31 - (intOf k).toNat)
  case atStart => exact ⟨0, by omega, rfl, rfl, rfl⟩
  case round =>
    obtain ⟨j, hj, rfl, rfl, rfl⟩ := hrel
    have hbd := bestTo_bd HS.out j hj
    by_cases hlt : j < 30
    · have h30 : ((j + 1 : Nat) : Int) ≤ 30 := by omega
      have hkk : j + 1 ≤ 30 := by omega
      by_cases hle : lenF xs (j + 1) < (bestTo xs j).2
      · have HE := hide (show bestTo xs (j + 1) = (j + 1, lenF xs (j + 1)) by simp only [bestTo, bestStep]; rw [if_pos hle])
        go_wp2_with (go_at_call 53; refine (c_riceLength _ xs (j + 1) _ HR.out HS.out hn hkk).mono ?_; rintro e w' ⟨rfl, rfl⟩)
        go_round
        case rel => exact ⟨j + 1, by omega, by go_num, by rw [HE.out]; go_num, by rw [HE.out]⟩
        case measure => first | (simp [intOf]; done) | (simp [intOf]; omega)
      · have HE := hide (show bestTo xs (j + 1) = bestTo xs j by simp only [bestTo, bestStep]; rw [if_neg hle])
        go_wp2_with (go_at_call 53; refine (c_riceLength _ xs (j + 1) _ HR.out HS.out hn hkk).mono ?_; rintro e w' ⟨rfl, rfl⟩)
        go_round
        case rel => exact ⟨j + 1, by omega, by go_num, by rw [HE.out], by rw [HE.out]⟩
        case measure => first | (simp [intOf]; done) | (simp [intOf]; omega)
    · have : j = 30 := by omega
      subst this
      go_wp2
      go_ret2
      exact ⟨rfl, rfl⟩
end Go.Proofs.YtpmflkoepnanoaaDoor
