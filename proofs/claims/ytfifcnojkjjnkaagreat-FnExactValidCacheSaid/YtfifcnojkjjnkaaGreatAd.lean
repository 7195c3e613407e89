/- Contracts: wrapped numbers, copies, differences. -/
import Derived.Test.YtfifcnojkjjnkaaGreatAc
namespace Go.Proofs.YtfifcnojkjjnkaaGreat
open Go.RowKit
theorem c_l01Wrap (n : Int) (w : World) : Calls Tryz.prog 213 #[.int .i64 n] w fun e w' => e = .returned (.int .i64 (wrp n)) ∧ w = w' := by
  have ha := and_32 n
  by_cases h : 2147483647 < n % 4294967296
  · have HE := hide (wrp_big n h)
    go_enter Tryz.func213, Tryz.ntmps213
    go_wp2
    go_ret
    exact ⟨ret_int HE.out, rfl⟩
  · have HE := hide (wrp_small n (by omega))
    go_enter Tryz.func213, Tryz.ntmps213
    go_wp2
    go_ret
    exact ⟨ret_int HE.out, rfl⟩
set_option maxHeartbeats 400000 in
theorem c_l00Own (v : Value) (xs : List Int) (w : World) (hr : RdI w v xs) (hn : xs.length ≤ 1048576) : Calls Tryz.prog 149 #[v] w fun e w' => ∃ v', e = .returned v' ∧ OwI 2 w' w.heap.size v' xs ∧ Below w.heap.size w w' := by
  have HR := hide hr; clear hr
  go_enter Tryz.func149, Tryz.ntmps149
  go_wp2_with (at_builtin; refine appm_i64 rfl _ _ rfl rfl (new_i64 w) rfl (Rd.alloc HR.out _) (by simp; omega) (by simp) ?_; intro v1 w1 ho hg hv)
  go_ret
  exact ⟨_, rfl, by simpa using ho, below_own ((Below.refl _ _).alloc (Nat.le_refl _) _) (new_i64 w) hg (Nat.le_refl _) (by simp)⟩
set_option maxHeartbeats 400000 in
theorem c_clone (v : Value) (xs : List Int) (w : World) (hr : RdI w v xs) (hn : xs.length ≤ 1048576) : Calls Tryz.prog 165 #[v] w fun e w' => ∃ v', e = .returned v' ∧ OwI 2 w' w.heap.size v' xs ∧ Below w.heap.size w w' := by
  have HR := hide hr; clear hr
  go_enter Tryz.func165, Tryz.ntmps165
  go_wp2_with (at_builtin; refine appm_i64 rfl _ _ rfl rfl (new_i64 w) rfl (Rd.alloc HR.out _) (by simp; omega) (by simp) ?_; intro v1 w1 ho hg hv)
  go_ret
  exact ⟨_, rfl, by simpa using ho, below_own ((Below.refl _ _).alloc (Nat.le_refl _) _) (new_i64 w) hg (Nat.le_refl _) (by simp)⟩
theorem lessD_at {xs : List Int} {k : Nat} {x b : Int} (hx : xs[k]? = some x) (hb : b = if k = 0 then 0 else xs.getD (k - 1) 0) : wrp (x - b) = lessD xs k := by
  subst hb
  unfold lessD
  rw [List.getD_eq_getElem?_getD (l := xs) (i := k), hx]; rfl
end Go.Proofs.YtfifcnojkjjnkaaGreat
