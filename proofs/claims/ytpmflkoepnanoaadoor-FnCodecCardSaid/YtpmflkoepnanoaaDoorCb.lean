/- Contracts: the best order; BestOrder of both sides; the law. -/
import Derived.Test.YtpmflkoepnanoaaDoorCa
namespace Go.Proofs.YtpmflkoepnanoaaDoor
open Go.RowKit
set_option maxHeartbeats 400000 in
set_option maxRecDepth 100000 in
theorem c_bestOrder (v : Value) (xs : List Int) (w : World) (hr : RdI w v xs) (hs : ∀ x ∈ xs, Smp x) (hn : xs.length ≤ 1048576) : Calls Tryd.prog 59 #[v] w fun e w' => e = .returned (.tuple #[.int .i64 ((ordR xs).1 : Int), .int .i64 ((ordR xs).2 : Int)]) ∧ Below w.heap.size w w' := by
  have HR := hide hr; have HS := hide hs; clear hr hs
  go_enter Tryd.func59, Tryd.ntmps59
  go_wp2_with fail
  refine (c_bestRice _ xs _ HR.out HS.out hn).mono ?_; rintro e w' ⟨rfl, rfl⟩
  go_wp2
  go_loopw [4, 5, 6, 7] (fun o b l k wr => ∃ j : Nat, j ≤ 3 ∧ k = .int .i64 ((j + 1 : Nat) : Int) ∧ o = .int .i64 ((ordTo xs j).1 : Int) ∧ b = .int .i64 ((ordTo xs j).2.1 : Int) ∧ l = .int .i64 (ordTo xs j).2.2 ∧ Below w.heap.size w wr) (fun _ _ _ k _ => 4 - (intOf k).toNat)
  case atStart => exact ⟨0, by omega, rfl, rfl, rfl, rfl, Below.refl _ _⟩
  case round =>
    obtain ⟨j, hj, rfl, rfl, rfl, rfl, hb⟩ := hrel
    have HB := hide hb; clear hb
    by_cases hlt : j < 3
    · have h30 : ((j + 1 : Nat) : Int) ≤ 3 := by omega
      have hkk : j + 1 ≤ 3 := by omega
      have hpl : (predictF (j + 1) xs).length ≤ 1048576 := by rw [length_predictF]; exact hn
      have HPS := hide (smp_predictF (j + 1) xs HS.out)
      have HRr := hide (HR.out.below HB.out)
      generalize hpx : predictF (j + 1) xs = ys at *
      have HPX := hide hpx; clear hpx
      generalize hbr : bestR ys = br at *
      have HBR := hide hbr; clear hbr
      by_cases hle : br.2 < (ordTo xs j).2.2
      · have HE := hide (show ordTo xs (j + 1) = (j + 1, br) by simp only [ordTo, ordStep]; rw [HPX.out, HBR.out, if_pos hle])
        go_wp2_with fail
        refine (c_predict _ xs (j + 1) _ HRr.out HS.out hn hkk).mono ?_; rw [HPX.out]; rintro e w2 ⟨v2, rfl, ho2, hb2⟩
        have HO := hide ho2; have HB2 := hide (bthen HB.out HB.out.size hb2); clear ho2 hb2
        go_wp2_with fail
        refine (c_bestRice _ ys _ HO.out.rd HPS.out hpl).mono ?_; rw [HBR.out]; rintro e w' ⟨rfl, rfl⟩
        go_wp2
        go_roundw
        case rel => exact ⟨j + 1, by omega, by go_num, by rw [HE.out]; go_num, by rw [HE.out], by rw [HE.out], HB2.out⟩
        case measure => first | (simp [intOf]; done) | (simp [intOf]; omega)
      · have HE := hide (show ordTo xs (j + 1) = ordTo xs j by simp only [ordTo, ordStep]; rw [HPX.out, HBR.out, if_neg hle])
        go_wp2_with fail
        refine (c_predict _ xs (j + 1) _ HRr.out HS.out hn hkk).mono ?_; rw [HPX.out]; rintro e w2 ⟨v2, rfl, ho2, hb2⟩
        have HO := hide ho2; have HB2 := hide (bthen HB.out HB.out.size hb2); clear ho2 hb2
        go_wp2_with fail
        refine (c_bestRice _ ys _ HO.out.rd HPS.out hpl).mono ?_; rw [HBR.out]; rintro e w' ⟨rfl, rfl⟩
        go_wp2
        go_roundw
        case rel => exact ⟨j + 1, by omega, by go_num, by rw [HE.out], by rw [HE.out], by rw [HE.out], HB2.out⟩
        case measure => first | (simp [intOf]; done) | (simp [intOf]; omega)
    · have : j = 3 := by omega
      subst this
      go_wp2
      go_ret2
      exact ⟨by unfold ordR; rfl, HB.out⟩
def bestOrdF (xs : List Int) : Int × Int × Int := if sigB xs then (((ordR xs).1 : Int), ((ordR xs).2 : Int), 0) else (0, 0, 1)
set_option maxHeartbeats 400000 in
set_option maxRecDepth 100000 in
theorem c_iBestOrder (v : Value) (xs : List Int) (w : World) (hr : RdI w v xs) (hn : xs.length ≤ 1048576) : Calls Tryd.prog 21 #[v] w fun e w' => e = .returned (.tuple #[.int .i64 (bestOrdF xs).1, .int .i64 (bestOrdF xs).2.1, .int .i64 (bestOrdF xs).2.2]) ∧ Below w.heap.size w w' := by
  have HR := hide hr; clear hr
  cases hs : sigB xs
  · have HE := hide (show bestOrdF xs = (0, 0, 1) by unfold bestOrdF; rw [hs]; rfl)
    go_enter Tryd.func21, Tryd.ntmps21
    go_wp2_with (go_at_call 57; refine (c_isSignal _ xs _ HR.out).mono ?_; rintro e w' ⟨rfl, rfl⟩)
    go_ret3
    exact ⟨by rw [HE.out]; rfl, Below.refl _ _⟩
  · have HE := hide (show bestOrdF xs = (((ordR xs).1 : Int), ((ordR xs).2 : Int), 0) by unfold bestOrdF; rw [hs]; rfl)
    have HSS := hide (sigB_true.1 hs).2
    go_enter Tryd.func21, Tryd.ntmps21
    go_wp2_with fail
    refine (c_isSignal _ xs _ HR.out).mono ?_; rintro e w' ⟨rfl, rfl⟩
    go_wp2_with fail
    refine (c_bestOrder _ xs _ HR.out HSS.out hn).mono ?_; rintro e w2 ⟨rfl, hb⟩
    have HB := hide hb; clear hb
    go_wp2
    go_ret3
    exact ⟨by rw [HE.out]; rfl, HB.out⟩
end Go.Proofs.YtpmflkoepnanoaaDoor
