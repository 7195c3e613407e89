/- Contracts: lists of samples, copies, differences. -/
import Derived.Test.YtpmflkoepnanoaaDoorAa
namespace Go.Proofs.YtpmflkoepnanoaaDoor
open Go.RowKit
theorem info_i64 : (Tryd.prog.info? 2).map (fun i => (i.zero, i.size, i.bytes)) = some (some (.int .i64 0), 1, 8) := by kernel_rfl
theorem app1_i64 {w : World} {ops : Array Oper} {rest : List Oper} {o : Oper} {a : Act} {Q : Exit → Act → World → Prop} {n : Int} (hgd : o.guard = none) (s x : Operand)
    (ho : o.op = .call { callee := .builtin .append, args := #[s, x], argTypes := #[30, 30] }) {B : Nat} {v : Value} {xs : List Int} (hs : a.eval s = v) (hown : OwI 2 w B v xs)
    (hx : a.eval x = .slice (some ⟨w.heap.size, 0, none⟩) 1 1) (hl : xs.length + 1 ≤ 17592186044416) (hB : B ≤ w.heap.size)
    (h : ∀ v' w', OwI 2 w' B v' (xs ++ [n]) → w.grownBy w' v.ownBlock → (∀ k, v'.ownBlock = some k → v.ownBlock = some k ∨ w.heap.size ≤ k) → wpList Tryd.prog ops Q rest (a.put o.dst v') w') :
    wpList Tryd.prog ops Q (o :: rest) a (w.alloc (.cells #[.int .i64 n] 2)) :=
  app_one hgd s x _ ho B _ _ 1 8 Tryd.underlying30 info_i64 rfl (by omega) v xs.length _ hs hown hx rfl (by simp [Value.oneCell']) (by omega) (by omega) hB
    fun v' w' h1 h2 h3 => h v' w' (by unfold OwI; simpa using h1) h2 h3
theorem appm_i64 {w : World} {ops : Array Oper} {rest : List Oper} {o : Oper} {a : Act} {Q : Exit → Act → World → Prop} (hgd : o.guard = none) (s x : Operand)
    (ho : o.op = .call { callee := .builtin .append, args := #[s, x], argTypes := #[30, 30] }) {B : Nat} {v : Value} {xs : List Int} (hs : a.eval s = v) (hown : OwI 2 w B v xs)
    {y : Value} {ys : List Int} (hx : a.eval x = y) (hr : RdI w y ys) (hl : xs.length + ys.length ≤ 17592186044416) (hB : B ≤ w.heap.size)
    (h : ∀ v' w', OwI 2 w' B v' (xs ++ ys) → w.grownBy w' v.ownBlock → (∀ k, v'.ownBlock = some k → v.ownBlock = some k ∨ w.heap.size ≤ k) → wpList Tryd.prog ops Q rest (a.put o.dst v') w') :
    wpList Tryd.prog ops Q (o :: rest) a w :=
  app_many hgd s x _ ho B _ _ 1 8 Tryd.underlying30 info_i64 rfl (by omega) v xs.length _ hs hown y ys.length _ hx hr (ints_oneCell _ _) (by omega) (by omega) hB
    fun v' w' h1 h2 h3 => h v' w' (by unfold OwI; simpa using h1) h2 h3
theorem new_i64 (w : World) : OwI 2 (w.alloc (.cells #[] 2)) w.heap.size (.slice (some ⟨w.heap.size, 0, none⟩) 0 0) [] := World.ownsRow_made w #[] 0 (Nat.le_refl _) (by decide) rfl
set_option maxHeartbeats 400000 in
theorem c_areSamples (v : Value) (xs : List Int) (w : World) (hr : RdI w v xs) : Calls Tryd.prog 103 #[v] w fun e w' => e = .returned (.bool (smpB xs)) ∧ w = w' := by
  obtain ⟨A, cap, rfl, hl, hc, hx⟩ := hr.open_
  have HX := hide hx; clear hx hr
  go_enter Tryd.func103, Tryd.ntmps103
  go_wp2
  go_loop [7] (fun i => ∃ k : Nat, k ≤ xs.length ∧ i = .int .i64 k ∧ smpB (xs.take k) = true) (fun i => xs.length - (intOf i).toNat)
  case atStart => exact ⟨0, Nat.zero_le _, rfl, by simp [smpB]⟩
  case round =>
    obtain ⟨k, hk, rfl, hs⟩ := hrel
    have HS := hide hs; clear hs
    by_cases hlt : k < xs.length
    · obtain ⟨b, off, rfl, hb, hcell⟩ := HX.out k xs[k] (List.getElem?_eq_getElem hlt)
      by_cases hsm : Smp xs[k]
      · have hd : decide (Smp xs[k]) = true := by simpa using hsm
        go_wp2_with (go_at_call 64; refine (c_isSample _ _).mono ?_; rintro e w' ⟨rfl, rfl⟩)
        go_round
        case rel => exact ⟨k + 1, by omega, by go_num, smpB_take_succ (List.getElem?_eq_getElem hlt) HS.out hsm⟩
        case measure => simp [intOf]; omega
      · have hd : decide (Smp xs[k]) = false := by simpa using hsm
        go_wp2_with (go_at_call 64; refine (c_isSample _ _).mono ?_; rintro e w' ⟨rfl, rfl⟩)
        go_ret
        exact ⟨by simp [smpB_no (List.getElem?_eq_getElem hlt) hsm], rfl⟩
    · go_wp2
      go_ret
      have : k = xs.length := by omega
      subst this
      have := HS.out
      rw [List.take_length] at this
      exact ⟨by simp [this], rfl⟩
set_option maxHeartbeats 400000 in
theorem c_isSignal (v : Value) (xs : List Int) (w : World) (hr : RdI w v xs) : Calls Tryd.prog 57 #[v] w fun e w' => e = .returned (.bool (sigB xs)) ∧ w = w' := by
  obtain ⟨A, cap, rfl, hl, hc, hx⟩ := hr.open_
  have HX := hide hx; clear hx
  have HR := hide hr; clear hr
  by_cases h4 : xs.length ≤ 4000
  all_goals
    go_enter Tryd.func57, Tryd.ntmps57
    go_wp2_with (go_at_call 103; refine (c_areSamples _ _ _ HR.out).mono ?_; rintro e w' ⟨rfl, rfl⟩)
    go_ret
    first | exact ⟨by simp [sigB, h4], rfl⟩ | exact ⟨by simp [sigB]; omega, rfl⟩
set_option maxHeartbeats 400000 in
theorem c_isOrder (n : Int) (w : World) : Calls Tryd.prog 48 #[.int .i64 n] w fun e w' => e = .returned (.bool (inB n 0 3)) ∧ w = w' := by
  go_enter Tryd.func48, Tryd.ntmps48
  go_wp2_with (go_at_call 66; refine (c_within _ _ _ _).mono ?_; rintro e w' ⟨rfl, rfl⟩)
  go_ret
  exact ⟨rfl, rfl⟩
/-- The code of a signal and a range. -/
def rateF (xs : List Int) (ok : Bool) : Int := if sigB xs then (if ok then 0 else 2) else 1
set_option maxHeartbeats 400000 in
theorem c_rateCode (v : Value) (xs : List Int) (ok : Bool) (w : World) (hr : RdI w v xs) : Calls Tryd.prog 47 #[v, .bool ok] w fun e w' => e = .returned (.int .i64 (rateF xs ok)) ∧ w = w' := by
  have HR := hide hr; clear hr
  cases hs : sigB xs <;> cases ok
  all_goals
    go_enter Tryd.func47, Tryd.ntmps47
    go_wp2_with (go_at_call 57; refine (c_isSignal _ xs _ HR.out).mono ?_; rintro e w' ⟨rfl, rfl⟩)
    go_ret
    exact ⟨by simp [rateF, hs], rfl⟩
end Go.Proofs.YtpmflkoepnanoaaDoor
