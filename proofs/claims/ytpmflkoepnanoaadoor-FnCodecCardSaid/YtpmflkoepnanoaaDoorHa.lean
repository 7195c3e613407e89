/- Contracts: sums that undo differences, both sides. -/
import Derived.Test.YtpmflkoepnanoaaDoorGa
namespace Go.Proofs.YtpmflkoepnanoaaDoor
open Go.RowKit
/-- The running sum of the first k elements; all of them; m times over. -/
def sumN (xs : List Int) : Nat → Int
  | 0 => 0
  | k + 1 => wrp (sumN xs k + xs.getD k 0)
def sumL (xs : List Int) : List Int := (List.range xs.length).map fun k => sumN xs (k + 1)
def restF : Nat → List Int → List Int
  | 0, xs => xs
  | m + 1, xs => restF m (sumL xs)
theorem sumN_succ {xs : List Int} {k : Nat} (h : k < xs.length) : sumN xs (k + 1) = wrp (sumN xs k + xs[k]) := by
  show wrp (sumN xs k + xs.getD k 0) = _
  rw [List.getD_eq_getElem?_getD, List.getElem?_eq_getElem h]; rfl
theorem length_sumL (xs : List Int) : (sumL xs).length = xs.length := by simp [sumL]
theorem sumN_smp (xs : List Int) : ∀ k, Smp (sumN xs k)
  | 0 => by unfold sumN Smp; omega
  | k + 1 => wrp_smp _
theorem sumL_smp (xs : List Int) : ∀ x ∈ sumL xs, Smp x := by
  intro x hx
  simp only [sumL, List.mem_map] at hx
  obtain ⟨k, _, rfl⟩ := hx
  exact sumN_smp xs _
theorem sumL_at {xs : List Int} {k : Nat} (h : k < xs.length) : (sumL xs)[k]? = some (sumN xs (k + 1)) := by
  simp [sumL, h]
set_option maxHeartbeats 400000 in
theorem c_l01Add (a b : Int) (w : World) (ha : Smp a) (hb : Smp b) : Calls Tryd.prog 87 #[.int .i64 a, .int .i64 b] w fun e w' => e = .returned (.int .i64 (wrp (a + b))) ∧ w = w' := by
  have e1 := wrp_of_smp ha; have e2 := wrp_of_smp hb
  have HE1 := hide e1; have HE2 := hide e2; clear e1 e2
  unfold Smp at ha hb
  go_enter Tryd.func87, Tryd.ntmps87
  go_wp2_with fail
  refine (c_l01Wrap _ _).mono ?_; rintro e w' ⟨rfl, rfl⟩; rw [HE1.out]
  go_wp2_with fail
  refine (c_l01Wrap _ _).mono ?_; rintro e w' ⟨rfl, rfl⟩; rw [HE2.out]
  go_wp2_with fail
  refine (c_l01Wrap _ _).mono ?_; rintro e w' ⟨rfl, rfl⟩
  go_wp2
  go_ret
  exact ⟨rfl, rfl⟩
set_option maxRecDepth 100000 in
theorem c_zeros (n : Nat) (w : World) (hn : n ≤ 1048576) : Calls Tryd.prog 128 #[.int .i64 (n : Int)] w fun e w' => e = .returned (.slice (some ⟨w.heap.size, 0, none⟩) n n) ∧ OwI 2 w' w.heap.size (.slice (some ⟨w.heap.size, 0, none⟩) n n) (List.replicate n 0) ∧ Below w.heap.size w w' := by
  obtain ⟨i0, hi, hz0, hz1, hz2⟩ := info_parts info_i64
  go_enter Tryd.func128, Tryd.ntmps128
  go_wp2_with (at_make; refine wpList_make_full _ rfl _ _ _ rfl w.heap.size 2 i0 _ 1 Tryd.underlying30 hi hz0 hz1 .i64 .i64 _ _ n rfl rfl rfl rfl (by rw [hz2]; omega) (by unfold maxLen; omega) (Nat.le_refl _) ?_; intro w1 hown1 hg1)
  have ho1 : OwI 2 w1 w.heap.size _ _ := OwI.made _ w1 (n := n) hg1.size (by unfold maxLen; omega) 0 hown1
  have hb1 : Below w.heap.size w w1 := (Below.refl _ _).grown hg1 (Nat.le_refl _) (by simp)
  clear hown1 hg1
  have HO := hide ho1; have HB := hide hb1; clear ho1 hb1
  go_wp2
  go_ret
  exact ⟨rfl, HO.out, HB.out⟩
set_option maxHeartbeats 800000 in
set_option maxRecDepth 100000 in
theorem c_integrate (v : Value) (xs : List Int) (w : World) (hr : RdI w v xs) (hs : ∀ x ∈ xs, Smp x) (hn : xs.length ≤ 1048576) : Calls Tryd.prog 90 #[v] w fun e w' => ∃ v', e = .returned v' ∧ OwI 2 w' w.heap.size v' (sumL xs) ∧ Below w.heap.size w w' := by
  have HR := hide hr
  obtain ⟨A, cap, rfl, hl, hc, hx⟩ := hr.open_
  have HX := hide hx; clear hx hr
  have HS := hide hs; clear hs
  go_enter Tryd.func90, Tryd.ntmps90
  go_wp2_with fail
  refine (c_size _ xs _ HR.out).mono ?_; rintro e w' ⟨rfl, rfl⟩
  go_wp2_with fail
  refine (c_zeros xs.length _ hn).mono ?_; rintro e w1 ⟨rfl, ho1, hb1⟩
  have HO1 := hide ho1; have HB1 := hide hb1; clear ho1 hb1
  go_wp2_with fail
  go_loopw [4, 12] (fun c i wr => ∃ k : Nat, k ≤ xs.length ∧ i = .int .i64 k ∧ c = .int .i64 (sumN xs k) ∧ OwI 2 wr w.heap.size (.slice (some ⟨w.heap.size, 0, none⟩) xs.length xs.length) ((sumL xs).take k ++ (List.replicate xs.length 0).drop k) ∧ Below w.heap.size w wr) (fun _ i _ => xs.length - (intOf i).toNat)
  case atStart => exact ⟨0, Nat.zero_le _, rfl, rfl, by simpa using HO1.out, HB1.out⟩
  case round =>
    obtain ⟨k, hk, rfl, rfl, ho, hb⟩ := hrel
    have HO := hide ho; have HB := hide hb; clear ho hb
    by_cases hlt : k < xs.length
    · obtain ⟨b, off, rfl, hbw, hcell⟩ := HX.out k xs[k] (List.getElem?_eq_getElem hlt)
      have h1 : wr.cell? ⟨b, off + k, none⟩ = some (.int .i64 xs[k]) := (HB.out.cell hbw).trans hcell
      have hmx : ((sumL xs).take k ++ (List.replicate xs.length (0 : Int)).drop k)[k]? = some 0 := by
        rw [getElem?_mix (by simp [length_sumL]) (by simpa using hlt)]; simp [hlt]
      have h3 := HO.out.cellN hmx
      have h4 := HO.out.freeN k
      have h5 := HS.out xs[k] (List.getElem_mem _)
      have h6 := sumN_smp xs k
      unfold Smp at h5 h6
      have HSN := hide (show wrp (sumN xs k + xs[k]) = sumN xs (k + 1) by rw [sumN_succ hlt])
      have hset := HO.out.setN k (sumN xs (k + 1))
      rw [set_mix (by simp [length_sumL]) (sumL_at hlt)] at hset
      have HST := hide hset; clear hset hmx
      generalize sumN xs k = c at *
      generalize hc1 : sumN xs (k + 1) = c1 at *
      go_wp2_with fail
      refine (c_Wrap _ _).mono ?_; rintro e w' ⟨rfl, rfl⟩; rw [HSN.out]
      go_wp2_with fail
      go_roundw
      case rel => exact ⟨k + 1, by omega, by go_num, by rw [hc1], HST.out, HB.out.setCell (Nat.le_refl _) _⟩
      case measure => simp [intOf]; omega
    · go_wp2
      go_ret
      obtain rfl : k = xs.length := by omega
      exact ⟨_, rfl, by have := HO.out; rw [List.take_of_length_le (by simp [length_sumL]), List.drop_of_length_le (by simp), List.append_nil] at this; exact this, HB.out⟩
set_option maxHeartbeats 800000 in
theorem c_restore (v : Value) (xs : List Int) (m : Nat) (w : World) (hr : RdI w v xs) (hs : ∀ x ∈ xs, Smp x) (hn : xs.length ≤ 1048576) (hm : m ≤ 3) : Calls Tryd.prog 50 #[v, .int .i64 (m : Int)] w fun e w' => ∃ v', e = .returned v' ∧ OwI 2 w' w.heap.size v' (restF m xs) ∧ Below w.heap.size w w' := by
  have HR := hide hr; clear hr
  have HS := hide hs; clear hs
  go_enter Tryd.func50, Tryd.ntmps50
  go_wp2_with (go_at_call 88; refine (c_clone _ _ _ HR.out hn).mono ?_; rintro e w1 ⟨v1, rfl, ho1, hb1⟩; have HO1 := hide ho1; have HB1 := hide hb1; clear ho1 hb1)
  go_loopw [5, 9] (fun t i wr => ∃ (k : Nat) (ys : List Int), k ≤ m ∧ i = .int .i64 k ∧ OwI 2 wr w.heap.size t ys ∧ ys.length = xs.length ∧ (∀ y ∈ ys, Smp y) ∧ restF (m - k) ys = restF m xs ∧ Below w.heap.size w wr) (fun _ i _ => m - (intOf i).toNat)
  case atStart => exact ⟨0, xs, Nat.zero_le _, rfl, HO1.out, rfl, HS.out, rfl, HB1.out⟩
  case round =>
    obtain ⟨k, ys, hk, rfl, ho, hl, hsy, hp, hb⟩ := hrel
    have HO := hide ho; have HB := hide hb; have HL := hide hl; have HP := hide hp; have HSY := hide hsy; clear ho hb hl hp hsy
    by_cases hlt : k < m
    · have hlen : ys.length ≤ 1048576 := by have := HL.out; omega
      go_wp2_with (go_at_call 90; refine (c_integrate _ ys _ HO.out.rd HSY.out hlen).mono ?_; rintro e w2 ⟨v2, rfl, ho2, hb2⟩; have HO2 := hide ho2; have HB2 := hide hb2; clear ho2 hb2)
      go_roundw
      case rel => exact ⟨k + 1, sumL ys, by omega, by go_num, HO2.out.more HB.out.size, by rw [length_sumL]; exact HL.out, sumL_smp ys, by rw [← HP.out, show m - k = (m - (k + 1)) + 1 by omega]; rfl, HB.out.trans (HB2.out.mono HB.out.size)⟩
      case measure => simp [intOf]; omega
    · go_wp2
      go_ret
      exact ⟨_, rfl, by have := HP.out; rw [show m - k = 0 by omega] at this; rw [← this]; exact HO.out, HB.out⟩
end Go.Proofs.YtpmflkoepnanoaaDoor
