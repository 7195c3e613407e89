/- Contracts for FnCodec: what the small functions answer for samples. -/
import Derived.Test.YtpmflkoepnanoaaDoorCb
import Derived.Test.YtpmflkoepnanoaaDoorDb
import Derived.Test.YtpmflkoepnanoaaDoorHa
import Derived.Test.YtpmflkoepnanoaaDoorIa
import Derived.Test.YtpmflkoepnanoaaDoorAe
import Derived.Test.YtpmflkoepnanoaaDoorAc
namespace Go.Proofs.YtpmflkoepnanoaaDoor
open Go.RowKit
theorem bestTo_le (xs : List Int) : ∀ k j, j ≤ k → (bestTo xs k).2 ≤ lenF xs j
  | 0, j, h => by obtain rfl : j = 0 := by omega
                  exact Int.le_refl _
  | k + 1, j, h => by
    simp only [bestTo, bestStep]
    rcases Nat.lt_or_ge k j with h1 | h1
    · obtain rfl : j = k + 1 := by omega
      split
      · exact Int.le_refl _
      · omega
    · have := bestTo_le xs k j h1
      split
      · simp only; omega
      · exact this
theorem bestTo_at (xs : List Int) : ∀ k, (bestTo xs k).2 = lenF xs (bestTo xs k).1
  | 0 => rfl
  | k + 1 => by
    simp only [bestTo, bestStep]
    split
    · rfl
    · exact bestTo_at xs k
theorem bestR_le (xs : List Int) {j : Nat} (h : j ≤ 30) : (bestR xs).2 ≤ lenF xs j := bestTo_le xs 30 j h
theorem bestR_at (xs : List Int) : (bestR xs).2 = lenF xs (bestR xs).1 := bestTo_at xs 30
theorem ordTo_le (xs : List Int) : ∀ m j, j ≤ m → (ordTo xs m).2.2 ≤ (bestR (predictF j xs)).2
  | 0, j, h => by obtain rfl : j = 0 := by omega
                  exact Int.le_refl _
  | m + 1, j, h => by
    simp only [ordTo, ordStep]
    rcases Nat.lt_or_ge m j with h1 | h1
    · obtain rfl : j = m + 1 := by omega
      split
      · exact Int.le_refl _
      · omega
    · have := ordTo_le xs m j h1
      split
      · simp only; omega
      · exact this
theorem ordTo_at (xs : List Int) : ∀ m, (ordTo xs m).2 = bestR (predictF (ordTo xs m).1 xs)
  | 0 => by simp only [ordTo, predictF]
  | m + 1 => by
    have ih := ordTo_at xs m
    simp only [ordTo, ordStep]
    by_cases h : (bestR (predictF (m + 1) xs)).2 < (ordTo xs m).2.2
    · rw [if_pos h]
    · rw [if_neg h]; exact ih
/-- No order and no parameter gives fewer bits than the best. -/
theorem ordR_le (xs : List Int) {m k : Nat} (hm : m ≤ 3) (hk : k ≤ 30) : lenF (predictF (ordR xs).1 xs) (ordR xs).2 ≤ lenF (predictF m xs) k := by
  have h1 := ordTo_le xs 3 m hm
  have h2 := bestR_le (predictF m xs) hk
  have h3 := ordTo_at xs 3
  have h4 := bestR_at (predictF (ordTo xs 3).1 xs)
  unfold ordR
  simp only
  rw [h3] at h1 ⊢
  rw [← h4]; omega
set_option maxHeartbeats 1000000 in
theorem c_iRestoreOk (v : Value) (xs : List Int) (m : Nat) (w : World) (hr : RdI w v xs) (hs : sigB xs = true) (hm : m ≤ 3) :
    Calls Tryd.prog 15 #[v, .int .i64 (m : Int)] w fun e w' => ∃ v', e = .returned (.tuple #[v', .int .i64 0]) ∧ OwI 2 w' w.heap.size v' (restF m xs) ∧ Below w.heap.size w w' := by
  have HR := hide hr
  have hc : rateF xs true = 0 := by simp [rateF, hs]
  have hi : inB (m : Int) 0 3 = true := inB_true.2 (by omega)
  have HSS := hide (sigB_true.1 hs)
  clear hr hs
  go_enter Tryd.func15, Tryd.ntmps15
  go_wp2_with (first | (go_at_call 48; refine (c_isOrder _ _).mono ?_; rw [hi]; rintro e w' ⟨rfl, rfl⟩) | (go_at_call 47; refine (c_rateCode _ xs _ _ HR.out).mono ?_; rw [hc]; rintro e w' ⟨rfl, rfl⟩) | (go_at_call 50; refine (c_restore _ xs m _ HR.out HSS.out.2 (by have := HSS.out.1; omega) hm).mono ?_; rintro e w2 ⟨v2, rfl, ho2, hb2⟩; have HO2 := hide ho2; have HB2 := hide hb2; clear ho2 hb2))
  go_ret2
  exact ⟨_, rfl, HO2.out, HB2.out⟩
set_option maxHeartbeats 1000000 in
theorem c_iRiceLen (v : Value) (xs : List Int) (k : Nat) (w : World) (hr : RdI w v xs) (hs : sigB xs = true) (hk : k ≤ 30) :
    Calls Tryd.prog 17 #[v, .int .i64 (k : Int)] w fun e w' => e = .returned (.tuple #[.int .i64 (lenF xs k), .int .i64 0]) ∧ Below w.heap.size w w' := by
  have HR := hide hr
  have hc : rateF xs true = 0 := by simp [rateF, hs]
  have hi : inB (k : Int) 0 30 = true := inB_true.2 (by omega)
  have HSS := hide (sigB_true.1 hs)
  clear hr hs
  go_enter Tryd.func17, Tryd.ntmps17
  go_wp2_with fail
  refine (c_isRice _ _).mono ?_; rw [hi]; rintro e _ ⟨rfl, rfl⟩
  go_wp2_with fail
  refine (c_rateCode _ xs _ _ HR.out).mono ?_; rw [hc]; rintro e _ ⟨rfl, rfl⟩
  go_wp2_with fail
  have hrl := c_riceLength _ xs k _ HR.out HSS.out.2 (by have := HSS.out.1; omega) hk
  refine hrl.mono ?_
  rintro e w2 ⟨rfl, rfl⟩
  clear hrl
  go_wp2
  go_ret2
  exact ⟨rfl, Below.refl _ _⟩
set_option maxHeartbeats 1000000 in
theorem c_iBestRice (v : Value) (xs : List Int) (w : World) (hr : RdI w v xs) (hs : sigB xs = true) :
    Calls Tryd.prog 20 #[v] w fun e w' => e = .returned (.tuple #[.int .i64 (((bestR xs).1 : Nat) : Int), .int .i64 (bestR xs).2, .int .i64 0]) ∧ w = w' := by
  have HR := hide hr
  have HS := hide hs; have HSS := hide (sigB_true.1 hs)
  clear hr hs
  generalize hB : bestR xs = B
  have HBB := hide hB; clear hB
  go_enter Tryd.func20, Tryd.ntmps20
  go_wp2_with fail
  refine (c_isSignal _ xs _ HR.out).mono ?_; rw [HS.out]; rintro e _ ⟨rfl, rfl⟩
  go_wp2_with fail
  have hb := c_bestRice _ xs _ HR.out HSS.out.2 (by have := HSS.out.1; omega)
  rw [HBB.out] at hb
  refine hb.mono ?_
  rintro e w2 ⟨rfl, rfl⟩
  clear hb
  go_wp2
  go_ret3
  exact ⟨rfl, rfl⟩
theorem c_FoldSample (x : Int) (w : World) (h : Smp x) : Calls Tryd.prog 24 #[.int .i64 x] w fun e w' => e = .returned (.tuple #[.int .i64 (foldF x), .bool true]) ∧ w = w' := by
  have HS := hide h
  have hi : decide (Smp x) = true := decide_eq_true h
  clear h
  go_enter Tryd.func24, Tryd.ntmps24
  go_wp2_with fail
  refine (c_isSample _ _).mono ?_; rw [hi]; rintro e _ ⟨rfl, rfl⟩
  go_wp2_with fail
  refine (c_fold x _ HS.out).mono ?_; rintro e _ ⟨rfl, rfl⟩
  go_wp2
  go_ret2
  exact ⟨rfl, rfl⟩
theorem c_UnfoldSample (n : Nat) (w : World) (h : n ≤ 4294967295) : Calls Tryd.prog 25 #[.int .i64 (n : Int)] w fun e w' => e = .returned (.tuple #[.int .i64 (unfF n), .bool true]) ∧ w = w' := by
  have hi : inB (n : Int) 0 4294967295 = true := inB_true.2 (by omega)
  go_enter Tryd.func25, Tryd.ntmps25
  go_wp2_with fail
  refine (c_within _ _ _ _).mono ?_; rw [hi]; rintro e _ ⟨rfl, rfl⟩
  go_wp2_with fail
  refine (c_unfold n _ (by omega)).mono ?_; rintro e _ ⟨rfl, rfl⟩
  go_wp2
  go_ret2
  exact ⟨rfl, rfl⟩
end Go.Proofs.YtpmflkoepnanoaaDoor
