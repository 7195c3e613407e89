/- Contracts: wrapped numbers, copies, differences. -/
import Derived.Test.YtpmflkoepnanoaaDoorAc
namespace Go.Proofs.YtpmflkoepnanoaaDoor
open Go.RowKit
theorem c_Wrap (n : Int) (w : World) : Calls Tryd.prog 127 #[.int .i64 n] w fun e w' => e = .returned (.int .i64 (wrp n)) ∧ w = w' := by
  have hs := wrp_smp n
  unfold Smp at hs
  go_enter Tryd.func127, Tryd.ntmps127
  go_wp2
  go_ret
  exact ⟨ret_int (by rw [wrp_eq]; exact IntWalk.wrap64_in _ (by omega)), rfl⟩
theorem c_l01Wrap (n : Int) (w : World) : Calls Tryd.prog 125 #[.int .i64 n] w fun e w' => e = .returned (.int .i64 (wrp n)) ∧ w = w' := by
  have ha := and_32 n
  by_cases h : 2147483647 < n % 4294967296
  · have HE := hide (wrp_big n h)
    go_enter Tryd.func125, Tryd.ntmps125
    go_wp2
    go_ret
    exact ⟨ret_int HE.out, rfl⟩
  · have HE := hide (wrp_small n (by omega))
    go_enter Tryd.func125, Tryd.ntmps125
    go_wp2
    go_ret
    exact ⟨ret_int HE.out, rfl⟩
theorem c_l01Sub (a b : Int) (w : World) : Calls Tryd.prog 137 #[.int .i64 a, .int .i64 b] w fun e w' => e = .returned (.int .i64 (wrp (a - b))) ∧ w = w' := by
  have h1 := wrp_smp a
  have h2 := wrp_smp b
  unfold Smp at h1 h2
  go_enter Tryd.func137, Tryd.ntmps137
  go_wp2_with (go_at_call 125; refine (c_l01Wrap _ _).mono ?_; rintro e w' ⟨rfl, rfl⟩)
  go_ret
  exact ⟨ret_int (wrp_sub a b), rfl⟩
set_option maxHeartbeats 400000 in
theorem c_l00Own (v : Value) (xs : List Int) (w : World) (hr : RdI w v xs) (hn : xs.length ≤ 1048576) : Calls Tryd.prog 105 #[v] w fun e w' => ∃ v', e = .returned v' ∧ OwI 2 w' w.heap.size v' xs ∧ Below w.heap.size w w' := by
  have HR := hide hr; clear hr
  go_enter Tryd.func105, Tryd.ntmps105
  go_wp2_with (at_builtin; refine appm_i64 rfl _ _ rfl rfl (new_i64 w) rfl (Rd.alloc HR.out _) (by simp; omega) (by simp) ?_; intro v1 w1 ho hg hv)
  go_ret
  exact ⟨_, rfl, by simpa using ho, below_own ((Below.refl _ _).alloc (Nat.le_refl _) _) (new_i64 w) hg (Nat.le_refl _) (by simp)⟩
set_option maxHeartbeats 400000 in
theorem c_clone (v : Value) (xs : List Int) (w : World) (hr : RdI w v xs) (hn : xs.length ≤ 1048576) : Calls Tryd.prog 88 #[v] w fun e w' => ∃ v', e = .returned v' ∧ OwI 2 w' w.heap.size v' xs ∧ Below w.heap.size w w' := by
  have HR := hide hr; clear hr
  go_enter Tryd.func88, Tryd.ntmps88
  go_wp2_with (at_builtin; refine appm_i64 rfl _ _ rfl rfl (new_i64 w) rfl (Rd.alloc HR.out _) (by simp; omega) (by simp) ?_; intro v1 w1 ho hg hv)
  go_ret
  exact ⟨_, rfl, by simpa using ho, below_own ((Below.refl _ _).alloc (Nat.le_refl _) _) (new_i64 w) hg (Nat.le_refl _) (by simp)⟩
theorem lessD_at {xs : List Int} {k : Nat} {x b : Int} (hx : xs[k]? = some x) (hb : b = if k = 0 then 0 else xs.getD (k - 1) 0) : wrp (x - b) = lessD xs k := by
  subst hb
  unfold lessD
  rw [List.getD_eq_getElem?_getD (l := xs) (i := k), hx]; rfl
set_option maxHeartbeats 800000 in
theorem c_l29Less (v : Value) (xs : List Int) (w : World) (hr : RdI w v xs) (hn : xs.length ≤ 1048576) : Calls Tryd.prog 106 #[v] w fun e w' => ∃ v', e = .returned v' ∧ OwI 2 w' w.heap.size v' (lessL xs) ∧ Below w.heap.size w w' := by
  obtain ⟨A, cap, rfl, hl, hc, hx⟩ := hr.open_
  have HX := hide hx; clear hx hr
  go_enter Tryd.func106, Tryd.ntmps106
  go_wp2
  go_loopw [3, 4, 5] (fun t b i wr => ∃ k : Nat, k ≤ xs.length ∧ i = .int .i64 k ∧ b = .int .i64 (if k = 0 then 0 else xs.getD (k - 1) 0) ∧ OwI 2 wr w.heap.size t ((lessL xs).take k) ∧ Below w.heap.size w wr) (fun _ _ i _ => xs.length - (intOf i).toNat)
  case atStart => exact ⟨0, Nat.zero_le _, rfl, rfl, new_i64 w, (Below.refl _ _).alloc (Nat.le_refl _) _⟩
  case round =>
    obtain ⟨k, hk, rfl, rfl, ho, hb⟩ := hrel
    have HO := hide ho; have HB := hide hb; clear ho hb
    generalize hB : (if k = 0 then 0 else xs.getD (k - 1) 0) = before at *
    have HBF := hide hB; clear hB
    by_cases hlt : k < xs.length
    · obtain ⟨b, off, rfl, hbw, hcell⟩ := HX.out k xs[k] (List.getElem?_eq_getElem hlt)
      have h1 : wr.cell? ⟨b, off + k, none⟩ = some (.int .i64 xs[k]) := (HB.out.cell hbw).trans hcell
      have hsz := HB.out.size
      have hlen : ((lessL xs).take k).length = k := by rw [List.length_take, length_lessL]; omega
      have HLN := hide hlen; clear hlen
      go_wp2_with (first | (go_at_call 137; refine (c_l01Sub _ _ _).mono ?_; rintro e w' ⟨rfl, rfl⟩) | (at_builtin; refine app1_i64 rfl _ _ rfl rfl HO.out rfl (by have := HLN.out; omega) hsz ?_; intro v1 w1 ho1 hg1 hv1; have hb1 := below_own HB.out HO.out hg1 (Nat.le_refl _) hsz; have h2 : w1.cell? ⟨b, off + k, none⟩ = some (.int .i64 xs[k]) := (hb1.cell hbw).trans hcell; have HO1 := hide ho1; have HB1 := hide hb1; clear ho1 hb1 hg1 hv1))
      go_roundw
      case rel => exact ⟨k + 1, by omega, by go_num, by simp [hlt], by have := HO1.out; rw [lessD_at (List.getElem?_eq_getElem hlt) HBF.out.symm, ← take_snoc_of (lessL_at hlt)] at this; exact this, HB1.out⟩
      case measure => simp [intOf]; omega
    · go_wp2
      go_ret
      have : k = xs.length := by omega
      subst this
      exact ⟨_, rfl, by have := HO.out; rw [List.take_of_length_le (by simp [length_lessL])] at this; exact this, HB.out⟩
end Go.Proofs.YtpmflkoepnanoaaDoor
