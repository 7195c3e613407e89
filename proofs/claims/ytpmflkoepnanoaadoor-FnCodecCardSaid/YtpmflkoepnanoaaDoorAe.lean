/- Contracts: differences of an order; PredictSignal of both sides. -/
import Derived.Test.YtpmflkoepnanoaaDoorAd
import Derived.Deep.RegionWith
namespace Go.Proofs.YtpmflkoepnanoaaDoor
open Go.RowKit
set_option maxHeartbeats 400000 in
theorem c_size (v : Value) (xs : List Int) (w : World) (hr : RdI w v xs) : Calls Tryd.prog 126 #[v] w fun e w' => e = .returned (.int .i64 (xs.length : Int)) ∧ w = w' := by
  obtain ⟨A, cap, rfl, hl, hc, hx⟩ := hr.open_
  clear hx hr
  go_enter Tryd.func126, Tryd.ntmps126
  go_wp2
  go_ret
  exact ⟨rfl, rfl⟩
set_option maxHeartbeats 800000 in
set_option maxRecDepth 100000 in
theorem c_comb (v : Value) (xs : List Int) (w : World) (hr : RdI w v xs) (hs : ∀ x ∈ xs, Smp x) (hn : xs.length ≤ 1048576) : Calls Tryd.prog 89 #[v, .int .i64 1] w fun e w' => ∃ v', e = .returned v' ∧ OwI 2 w' w.heap.size v' (lessL xs) ∧ Below w.heap.size w w' := by
  have HR := hide hr
  obtain ⟨A, cap, rfl, hl, hc, hx⟩ := hr.open_
  have HX := hide hx; clear hx hr
  have HS := hide hs; clear hs
  go_enter Tryd.func89, Tryd.ntmps89
  go_wp2_with (go_at_call 88; refine (c_clone _ _ _ HR.out hn).mono ?_; rintro e w1 ⟨v1, rfl, ho1, hb1⟩; have HO1 := hide ho1; have HB1 := hide hb1; clear ho1 hb1)
  rcases Nat.eq_zero_or_pos xs.length with hz | hz
  · have hx0 : xs = [] := List.eq_nil_of_length_eq_zero hz
    subst hx0
    have HRr : Sec (RdI w1 (.slice A 0 cap) []) := ⟨HR.out.below HB1.out⟩
    simp only [List.length_nil] at *
    clear hz
    refine wp_loop_rounds 1 ?_
    rw [rounds_succ]
    go_wp2_with (go_at_call 126; refine (c_size _ [] _ HRr.out).mono ?_; rintro e w' ⟨rfl, rfl⟩)
    go_ret
    exact ⟨_, rfl, HO1.out, HB1.out⟩
  · obtain ⟨g, cap1, rfl, hl1, hg1, hgw⟩ := HO1.out.form hz
    go_loopw [6] (fun i wr => ∃ k : Nat, 1 ≤ k ∧ k ≤ xs.length ∧ i = .int .i64 k ∧ OwI 2 wr w.heap.size (.slice (some ⟨g, 0, none⟩) xs.length cap1) ((lessL xs).take k ++ xs.drop k) ∧ Below w.heap.size w wr) (fun i _ => xs.length - (intOf i).toNat)
    case atStart => exact ⟨1, by omega, by omega, rfl, by rw [less_start hz HS.out]; exact HO1.out, HB1.out⟩
    case round =>
      obtain ⟨k, hk1, hk, rfl, ho, hb⟩ := hrel
      have HO := hide ho; have HB := hide hb; clear ho hb
      have HRr : Sec (RdI wr (.slice A xs.length cap) xs) := ⟨HR.out.below HB.out⟩
      by_cases hlt : k < xs.length
      · obtain ⟨b, off, rfl, hbw, hcell⟩ := HX.out k xs[k] (List.getElem?_eq_getElem hlt)
        obtain ⟨b', off', hbe, _, hcell'⟩ := HX.out (k - 1) xs[k - 1] (List.getElem?_eq_getElem (by omega))
        simp only [Option.some.injEq, Addr.mk.injEq, and_true] at hbe
        obtain ⟨rfl, rfl⟩ := hbe
        have h1 : wr.cell? ⟨b, off + k, none⟩ = some (.int .i64 xs[k]) := (HB.out.cell hbw).trans hcell
        have h2 : wr.cell? ⟨b, off + (k - 1), none⟩ = some (.int .i64 xs[k - 1]) := (HB.out.cell hbw).trans hcell'
        have h3 : wr.cell? ⟨g, k, none⟩ = some (.int .i64 xs[k]) := HO.out.cellN (by rw [getElem?_mix (length_lessL _) hlt]; exact List.getElem?_eq_getElem hlt)
        have h4 := HO.out.freeN k
        have h5 := HS.out xs[k] (List.getElem_mem _)
        have h6 := HS.out xs[k - 1] (List.getElem_mem _)
        unfold Smp at h5 h6
        have e1 : IntKind.i64.wrap ((k : Int) - 1) = (k : Int) - 1 := IntWalk.i64_in _ (by omega)
        have e2 : ((k : Int) - 1).toNat = k - 1 := by omega
        have e3 : (1 : Int) ≤ (k : Int) := by omega
        have e4 : (k : Int) - 1 < (xs.length : Int) := by omega
        go_wp2_with (go_at_call 126; refine (c_size _ _ _ HRr.out).mono ?_; rintro e w' ⟨rfl, rfl⟩)
        go_region_with (go_at_call 127; refine (c_Wrap _ _).mono ?_; rintro e w' ⟨rfl, rfl⟩)
        all_goals try go_wp2
        all_goals go_roundw
        all_goals first | (simp [intOf]; omega) | exact ⟨k + 1, by omega, by omega, by go_num, by have := HO.out.setN k (wrp (xs[k] - xs[k - 1])); rw [set_mix (length_lessL _) (by rw [lessL_at hlt, ← lessD_at (List.getElem?_eq_getElem hlt) (if_neg (by omega)).symm]; simp [List.getElem?_eq_getElem (show k - 1 < xs.length by omega)])] at this; exact this, (HB.out.setCell (by omega) _).drew⟩
      · go_wp2_with (go_at_call 126; refine (c_size _ _ _ HRr.out).mono ?_; rintro e w' ⟨rfl, rfl⟩)
        go_ret
        have : k = xs.length := by omega
        subst this
        exact ⟨_, rfl, by have := HO.out; rw [List.take_of_length_le (by simp [length_lessL]), List.drop_length, List.append_nil] at this; unfold OwI at *; rw [length_lessL] at *; exact this, HB.out⟩

set_option maxHeartbeats 800000 in
theorem c_l29Predict (v : Value) (xs : List Int) (m : Nat) (w : World) (hr : RdI w v xs) (hn : xs.length ≤ 1048576) (hm : m ≤ 3) : Calls Tryd.prog 62 #[v, .int .i64 m] w fun e w' => ∃ v', e = .returned v' ∧ OwI 2 w' w.heap.size v' (predictF m xs) ∧ Below w.heap.size w w' := by
  have HR := hide hr; clear hr
  go_enter Tryd.func62, Tryd.ntmps62
  go_wp2_with (go_at_call 105; refine (c_l00Own _ _ _ HR.out hn).mono ?_; rintro e w1 ⟨v1, rfl, ho1, hb1⟩; have HO1 := hide ho1; have HB1 := hide hb1; clear ho1 hb1)
  go_loopw [1, 5] (fun o t wr => ∃ (k : Nat) (ys : List Int), k ≤ 3 ∧ o = .int .i64 k ∧ OwI 2 wr w.heap.size t ys ∧ ys.length = xs.length ∧ predictF k ys = predictF m xs ∧ Below w.heap.size w wr) (fun o _ _ => (intOf o).toNat)
  case atStart => exact ⟨m, xs, hm, rfl, HO1.out, rfl, rfl, HB1.out⟩
  case round =>
    obtain ⟨k, ys, hk, rfl, ho, hl, hp, hb⟩ := hrel
    have HO := hide ho; have HB := hide hb; have HL := hide hl; have HP := hide hp; clear ho hb hl hp
    cases k with
    | zero =>
      go_wp2
      go_ret
      exact ⟨_, rfl, by have := HP.out; rw [← this]; exact HO.out, HB.out⟩
    | succ k =>
      have hlen : ys.length ≤ 1048576 := by have := HL.out; omega
      go_wp2_with (go_at_call 106; refine (c_l29Less _ ys _ HO.out.rd hlen).mono ?_; rintro e w2 ⟨v2, rfl, ho2, hb2⟩; have HO2 := hide ho2; have HB2 := hide hb2; clear ho2 hb2)
      go_roundw
      case rel => exact ⟨k, lessL ys, by omega, by go_num, HO2.out.more HB.out.size, by rw [length_lessL]; exact HL.out, HP.out, HB.out.trans (HB2.out.mono HB.out.size)⟩
      case measure => first | (simp [intOf]; done) | (simp [intOf]; omega)
set_option maxHeartbeats 800000 in
theorem c_predict (v : Value) (xs : List Int) (m : Nat) (w : World) (hr : RdI w v xs) (hs : ∀ x ∈ xs, Smp x) (hn : xs.length ≤ 1048576) (hm : m ≤ 3) : Calls Tryd.prog 49 #[v, .int .i64 m] w fun e w' => ∃ v', e = .returned v' ∧ OwI 2 w' w.heap.size v' (predictF m xs) ∧ Below w.heap.size w w' := by
  have HR := hide hr; clear hr
  have HS := hide hs; clear hs
  go_enter Tryd.func49, Tryd.ntmps49
  go_wp2_with (go_at_call 88; refine (c_clone _ _ _ HR.out hn).mono ?_; rintro e w1 ⟨v1, rfl, ho1, hb1⟩; have HO1 := hide ho1; have HB1 := hide hb1; clear ho1 hb1)
  go_loopw [5, 9] (fun t i wr => ∃ (k : Nat) (ys : List Int), k ≤ m ∧ i = .int .i64 ((m - k : Nat) : Int) ∧ OwI 2 wr w.heap.size t ys ∧ ys.length = xs.length ∧ (∀ y ∈ ys, Smp y) ∧ predictF k ys = predictF m xs ∧ Below w.heap.size w wr) (fun _ i _ => m - (intOf i).toNat)
  case atStart => exact ⟨m, xs, Nat.le_refl _, by simp, HO1.out, rfl, HS.out, rfl, HB1.out⟩
  case round =>
    obtain ⟨k, ys, hk, rfl, ho, hl, hsm, hp, hb⟩ := hrel
    have HO := hide ho; have HB := hide hb; have HL := hide hl; have HP := hide hp; have HSM := hide hsm; clear ho hb hl hp hsm
    cases k with
    | zero =>
      go_wp2
      go_ret
      exact ⟨_, rfl, by have := HP.out; rw [← this]; exact HO.out, HB.out⟩
    | succ k =>
      have hlen : ys.length ≤ 1048576 := by have := HL.out; omega
      have hlt : m - (k + 1) < m := by omega
      go_wp2_with (go_at_call 89; refine (c_comb _ ys _ HO.out.rd HSM.out hlen).mono ?_; rintro e w2 ⟨v2, rfl, ho2, hb2⟩; have HO2 := hide ho2; have HB2 := hide hb2; clear ho2 hb2)
      go_roundw
      case rel => exact ⟨k, lessL ys, by omega, by simp; omega, HO2.out.more HB.out.size, by rw [length_lessL]; exact HL.out, smp_lessL, HP.out, HB.out.trans (HB2.out.mono HB.out.size)⟩
      case measure => first | (simp [intOf]; done) | (simp [intOf]; omega)
/-- PredictSignal: the differences and the code. -/
def predSigF (xs : List Int) (m : Int) : List Int × Int := if sigB xs then (if inB m 0 3 then (predictF m.toNat xs, 0) else ([], 2)) else ([], 1)
set_option maxHeartbeats 800000 in
theorem c_sPredictSignal (v : Value) (xs : List Int) (m : Int) (w : World) (hr : RdI w v xs) (hn : xs.length ≤ 1048576) : Calls Tryd.prog 22 #[v, .int .i64 m] w fun e w' => ∃ v', e = .returned (.tuple #[v', .int .i64 (predSigF xs m).2]) ∧ OwI 2 w' w.heap.size v' (predSigF xs m).1 ∧ Below w.heap.size w w' := by
  have HR := hide hr; clear hr
  cases hs : sigB xs
  · go_enter Tryd.func22, Tryd.ntmps22
    go_wp2_with (go_at_call 60; refine (c_l03Ok _ xs _ HR.out).mono ?_; rintro e w' ⟨rfl, rfl⟩)
    go_ret2
    exact ⟨.slice none 0 0, by simp [predSigF, hs], by simp only [predSigF, hs]; exact OwI.nil_ _ _ _, Below.refl _ _⟩
  · cases hi : inB m 0 3
    · go_enter Tryd.func22, Tryd.ntmps22
      go_wp2_with (first | (go_at_call 60; refine (c_l03Ok _ xs _ HR.out).mono ?_; rintro e w' ⟨rfl, rfl⟩) | (go_at_call 61; refine (c_l00In _ _ _ _).mono ?_; rintro e w' ⟨rfl, rfl⟩))
      go_ret2
      exact ⟨.slice none 0 0, by simp [predSigF, hs, hi], by simp only [predSigF, hs, hi]; exact OwI.nil_ _ _ _, Below.refl _ _⟩
    · obtain ⟨h0, h3⟩ := inB_true.1 hi
      obtain ⟨n, rfl⟩ := Int.eq_ofNat_of_zero_le h0
      go_enter Tryd.func22, Tryd.ntmps22
      go_wp2_with (first | (go_at_call 60; refine (c_l03Ok _ xs _ HR.out).mono ?_; rintro e w' ⟨rfl, rfl⟩) | (go_at_call 61; refine (c_l00In _ _ _ _).mono ?_; rintro e w' ⟨rfl, rfl⟩) | (go_at_call 62; refine (c_l29Predict _ xs n _ HR.out hn (by omega)).mono ?_; rintro e w2 ⟨v2, rfl, ho2, hb2⟩; have HO2 := hide ho2; have HB2 := hide hb2; clear ho2 hb2))
      go_ret2
      exact ⟨_, by simp [predSigF, hs, hi]; rfl, by simp only [predSigF, hs, hi]; exact HO2.out, HB2.out⟩
set_option maxHeartbeats 800000 in
theorem c_iPredictSignal (v : Value) (xs : List Int) (m : Int) (w : World) (hr : RdI w v xs) (hn : xs.length ≤ 1048576) : Calls Tryd.prog 14 #[v, .int .i64 m] w fun e w' => ∃ v', e = .returned (.tuple #[v', .int .i64 (predSigF xs m).2]) ∧ OwI 2 w' w.heap.size v' (predSigF xs m).1 ∧ Below w.heap.size w w' := by
  have HR := hide hr; clear hr
  cases hs : sigB xs
  · have hc : ∀ b, rateF xs b = 1 := fun b => by simp [rateF, hs]
    go_enter Tryd.func14, Tryd.ntmps14
    go_wp2_with (first | (go_at_call 48; refine (c_isOrder _ _).mono ?_; rintro e w' ⟨rfl, rfl⟩) | (go_at_call 47; refine (c_rateCode _ xs _ _ HR.out).mono ?_; rintro e w' ⟨rfl, rfl⟩))
    go_ret2
    exact ⟨.slice none 0 0, by simp [predSigF, hs], by simp only [predSigF, hs]; exact OwI.nil_ _ _ _, Below.refl _ _⟩
  · cases hi : inB m 0 3
    · have hc : rateF xs false = 2 := by simp [rateF, hs]
      go_enter Tryd.func14, Tryd.ntmps14
      go_wp2_with (first | (go_at_call 48; refine (c_isOrder _ _).mono ?_; rintro e w' ⟨rfl, rfl⟩) | (go_at_call 47; refine (c_rateCode _ xs _ _ HR.out).mono ?_; rintro e w' ⟨rfl, rfl⟩))
      go_ret2
      exact ⟨.slice none 0 0, by simp [predSigF, hs, hi], by simp only [predSigF, hs, hi]; exact OwI.nil_ _ _ _, Below.refl _ _⟩
    · obtain ⟨h0, h3⟩ := inB_true.1 hi
      obtain ⟨n, rfl⟩ := Int.eq_ofNat_of_zero_le h0
      have hc : rateF xs true = 0 := by simp [rateF, hs]
      have HSS := hide (sigB_true.1 hs).2
      go_enter Tryd.func14, Tryd.ntmps14
      go_wp2_with (first | (go_at_call 48; refine (c_isOrder _ _).mono ?_; rintro e w' ⟨rfl, rfl⟩) | (go_at_call 47; refine (c_rateCode _ xs _ _ HR.out).mono ?_; rintro e w' ⟨rfl, rfl⟩) | (go_at_call 49; refine (c_predict _ xs n _ HR.out HSS.out hn (by omega)).mono ?_; rintro e w2 ⟨v2, rfl, ho2, hb2⟩; have HO2 := hide ho2; have HB2 := hide hb2; clear ho2 hb2))
      go_ret2
      exact ⟨_, by simp [predSigF, hs, hi]; rfl, by simp only [predSigF, hs, hi]; exact HO2.out, HB2.out⟩
end Go.Proofs.YtpmflkoepnanoaaDoor
