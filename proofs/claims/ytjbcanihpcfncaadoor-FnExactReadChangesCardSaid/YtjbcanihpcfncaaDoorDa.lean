/- Contracts: bits as bytes. -/
import Derived.Test.YtjbcanihpcfncaaDoorCa
import Derived.Test.YtjbcanihpcfncaaDoorSh
namespace Go.Proofs.YtjbcanihpcfncaaDoor
open Go.RowKit
theorem info_u8 : (Tryd.prog.info? 5).map (fun i => (i.zero, i.size, i.bytes)) = some (some (.int .u8 0), 1, 1) := by kernel_rfl
theorem app1_u8 {w : World} {ops : Array Oper} {rest : List Oper} {o : Oper} {a : Act} {Q : Exit → Act → World → Prop} {x : Int} {n : UInt8} (hgd : o.guard = none) (s y : Operand)
    (ho : o.op = .call { callee := .builtin .append, args := #[s, y], argTypes := #[55, 55] }) {B : Nat} {v : Value} {xs : List UInt8} (hs : a.eval s = v) (hown : OwY 5 w B v xs)
    (hx : a.eval y = .slice (some ⟨w.heap.size, 0, none⟩) 1 1) (hn : x = (n.toNat : Int)) (hl : xs.length + 1 ≤ 140737488355328) (hB : B ≤ w.heap.size)
    (h : ∀ v' w', OwY 5 w' B v' (xs ++ [n]) → w.grownBy w' v.ownBlock → (∀ k, v'.ownBlock = some k → v.ownBlock = some k ∨ w.heap.size ≤ k) → wpList Tryd.prog ops Q rest (a.put o.dst v') w') :
    wpList Tryd.prog ops Q (o :: rest) a (w.alloc (.cells #[.int .u8 x] 5)) := by
  subst hn
  exact app_one hgd s y _ ho B _ _ 1 1 Tryd.underlying55 info_u8 rfl (by omega) v xs.length _ hs hown hx rfl (by simp [Value.oneCell']) (by omega) (by omega) hB
    fun v' w' h1 h2 h3 => h v' w' (by unfold OwY; simpa using h1) h2 h3
theorem oneCell_bytes (l : List UInt8) : ∀ u ∈ l.map (fun b => Value.int .u8 (b.toNat : Int)), u.oneCell' = true := by
  intro u hu
  obtain ⟨b, _, rfl⟩ := List.mem_map.1 hu
  rfl
theorem appm_u8 {w : World} {ops : Array Oper} {rest : List Oper} {o : Oper} {a : Act} {Q : Exit → Act → World → Prop} (hgd : o.guard = none) (s x : Operand)
    (ho : o.op = .call { callee := .builtin .append, args := #[s, x], argTypes := #[55, 55] }) {B : Nat} {v : Value} {xs : List UInt8} (hs : a.eval s = v) (hown : OwY 5 w B v xs)
    {y : Value} {ys : List UInt8} (hx : a.eval x = y) (hr : RdY w y ys) (hl : xs.length + ys.length ≤ 140737488355328) (hB : B ≤ w.heap.size)
    (h : ∀ v' w', OwY 5 w' B v' (xs ++ ys) → w.grownBy w' v.ownBlock → (∀ k, v'.ownBlock = some k → v.ownBlock = some k ∨ w.heap.size ≤ k) → wpList Tryd.prog ops Q rest (a.put o.dst v') w') :
    wpList Tryd.prog ops Q (o :: rest) a w :=
  app_many hgd s x _ ho B _ _ 1 1 Tryd.underlying55 info_u8 rfl (by omega) v xs.length _ hs hown y ys.length _ hx hr (oneCell_bytes _) (by omega) (by omega) hB
    fun v' w' h1 h2 h3 => h v' w' (by unfold OwY; simpa using h1) h2 h3
theorem new_u8 (w : World) : OwY 5 (w.alloc (.cells #[] 5)) w.heap.size (.slice (some ⟨w.heap.size, 0, none⟩) 0 0) [] := World.ownsRow_made w #[] 0 (Nat.le_refl _) (by decide) rfl
theorem str_of {w : World} {v : Value} {bs : List UInt8} (h : RdY w v bs) : (convert 55 9 v).run Tryd.prog w = .ok (.string (mkS bs)) w :=
  run_str Tryd.underlying55 Tryd.underlying5 Tryd.underlying9 h
end Go.Proofs.YtjbcanihpcfncaaDoor
