/- Contracts: lists of samples, copies, differences. -/
import Derived.Test.YtjbcanihpcfncaaAa
namespace Go.Proofs.Ytjbcanihpcfncaa
open Go.RowKit
theorem info_i64 : (Try.prog.info? 2).map (fun i => (i.zero, i.size, i.bytes)) = some (some (.int .i64 0), 1, 8) := by kernel_rfl
theorem app1_i64 {w : World} {ops : Array Oper} {rest : List Oper} {o : Oper} {a : Act} {Q : Exit → Act → World → Prop} {n : Int} (hgd : o.guard = none) (s x : Operand)
    (ho : o.op = .call { callee := .builtin .append, args := #[s, x], argTypes := #[33, 33] }) {B : Nat} {v : Value} {xs : List Int} (hs : a.eval s = v) (hown : OwI 2 w B v xs)
    (hx : a.eval x = .slice (some ⟨w.heap.size, 0, none⟩) 1 1) (hl : xs.length + 1 ≤ 17592186044416) (hB : B ≤ w.heap.size)
    (h : ∀ v' w', OwI 2 w' B v' (xs ++ [n]) → w.grownBy w' v.ownBlock → (∀ k, v'.ownBlock = some k → v.ownBlock = some k ∨ w.heap.size ≤ k) → wpList Try.prog ops Q rest (a.put o.dst v') w') :
    wpList Try.prog ops Q (o :: rest) a (w.alloc (.cells #[.int .i64 n] 2)) :=
  app_one hgd s x _ ho B _ _ 1 8 Try.underlying33 info_i64 rfl (by omega) v xs.length _ hs hown hx rfl (by simp [Value.oneCell']) (by omega) (by omega) hB
    fun v' w' h1 h2 h3 => h v' w' (by unfold OwI; simpa using h1) h2 h3
theorem appm_i64 {w : World} {ops : Array Oper} {rest : List Oper} {o : Oper} {a : Act} {Q : Exit → Act → World → Prop} (hgd : o.guard = none) (s x : Operand)
    (ho : o.op = .call { callee := .builtin .append, args := #[s, x], argTypes := #[33, 33] }) {B : Nat} {v : Value} {xs : List Int} (hs : a.eval s = v) (hown : OwI 2 w B v xs)
    {y : Value} {ys : List Int} (hx : a.eval x = y) (hr : RdI w y ys) (hl : xs.length + ys.length ≤ 17592186044416) (hB : B ≤ w.heap.size)
    (h : ∀ v' w', OwI 2 w' B v' (xs ++ ys) → w.grownBy w' v.ownBlock → (∀ k, v'.ownBlock = some k → v.ownBlock = some k ∨ w.heap.size ≤ k) → wpList Try.prog ops Q rest (a.put o.dst v') w') :
    wpList Try.prog ops Q (o :: rest) a w :=
  app_many hgd s x _ ho B _ _ 1 8 Try.underlying33 info_i64 rfl (by omega) v xs.length _ hs hown y ys.length _ hx hr (ints_oneCell _ _) (by omega) (by omega) hB
    fun v' w' h1 h2 h3 => h v' w' (by unfold OwI; simpa using h1) h2 h3
theorem new_i64 (w : World) : OwI 2 (w.alloc (.cells #[] 2)) w.heap.size (.slice (some ⟨w.heap.size, 0, none⟩) 0 0) [] := World.ownsRow_made w #[] 0 (Nat.le_refl _) (by decide) rfl
/-- The code of a signal and a range. -/
def rateF (xs : List Int) (ok : Bool) : Int := if sigB xs then (if ok then 0 else 2) else 1
end Go.Proofs.Ytjbcanihpcfncaa
