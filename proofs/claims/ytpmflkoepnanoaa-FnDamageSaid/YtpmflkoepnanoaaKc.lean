/- Contract: AppendSignal of the program. -/
import Derived.Test.YtpmflkoepnanoaaKa
import Derived.Deep.RegionHeld3
import Derived.Deep.RegionHeldLaw
namespace Go.Proofs.Ytpmflkoepnanoaa
open Go.RowKit
/-- A new slice behind a new block, and a draw. -/
theorem one_new (w : World) (t : TypeId) (cs : Array Value) : ∃ w3, w3 = ((w.alloc (.cells cs t)).alloc (.cells #[] 2)).drew ∧
    OwI 2 w3 (w.heap.size + 1) (.slice (some ⟨w.heap.size + 1, 0, none⟩) 0 0) [] ∧ Bk w3 w.heap.size t cs ∧ Below w.heap.size w w3 ∧ w3.heap.size = w.heap.size + 2 := by
  have h1 := new_i64 (w.alloc (.cells cs t))
  have e1 : (w.alloc (.cells cs t)).heap.size = w.heap.size + 1 := by simp
  rw [e1] at h1
  exact ⟨_, rfl, h1, ((Bk.born w t cs).alloc _), Below.drew (((Below.refl _ _).alloc (Nat.le_refl _) _).alloc (by simp) _), by simp⟩
/-- append of all elements of a slice that reads, at a step of a region that draws its order. -/
theorem step_many {P : Program} {w : World} {ops : Array Oper} {o : Oper} {a : Act} {K : Act → World → Prop} {Q : Exit → Act → World → Prop} {E : Prop} (hgd : o.guard = none) (s x : Operand) (t : TypeId)
    (ho : o.op = .call { callee := .builtin .append, args := #[s, x], argTypes := #[t, t] })
    (base : Nat) (e : TypeId) (z : Value) (size bytes : Nat) (ht : P.underlying t = some (.slice e)) (hinfo : (P.info? e).map (fun i => (i.zero, i.size, i.bytes)) = some (some z, size, bytes))
    (hzs : z.cells.size = size) (hsz : 0 < size)
    (v : Value) (n : Nat) (xs : List Value) (hs : a.eval s = v) (hown : w.ownsRow base e size v n xs)
    (y : Value) (m : Nat) (ys : List Value) (hx : a.eval x = y) (hr : Rd w y size m ys) (h1 : ∀ u ∈ ys, u.oneCell' = true)
    (hbytes : (n + m) * bytes ≤ 140737488355328) (h63 : n + m ≤ maxLen) (hbase : base ≤ w.heap.size)
    (h : ∀ v' w', w'.ownsRow base e size v' (n + m) (xs ++ ys) → w.grownBy w' v.ownBlock → (∀ k, v'.ownBlock = some k → v.ownBlock = some k ∨ w.heap.size ≤ k) → K (a.put o.dst v') w') :
    if Region.wanted o (yielded ops a.tmps) = true then Oper.wp P o a w K Q else E := by
  have hw : Region.wanted o (yielded ops a.tmps) = true := by simp [Region.wanted, hgd]
  rw [if_pos hw]
  obtain ⟨i0, hi, hz0, hz1, hz2⟩ := info_parts hinfo
  obtain ⟨hl, A, cap, rfl, hc1, hc2, hcell⟩ := hr
  rcases Nat.eq_zero_or_pos m with hm | hm
  · subst hm
    have hn : ys = [] := List.eq_nil_of_length_eq_zero (by simpa using hl)
    subst hn
    have hrun : (Builtin.append_ #[t, t] o.type #[v, .slice A 0 cap]).run P w = .ok v w := by
      rcases hown.2 with ⟨rfl, rfl⟩ | ⟨g, cap', cur, rfl, _, _, hnc, _⟩
      · cases A <;> simp [Builtin.append_, run_underlying ht, sizeOf, typeInfo, hi, Builtin.lenOf, Builtin.firstCells, loadCells, loadCellsFrom]
      · cases A <;> simp [Builtin.append_, run_underlying ht, sizeOf, typeInfo, hi, Builtin.lenOf, Builtin.firstCells, hnc, storeCells, loadCells, loadCellsFrom]
    unfold Oper.wp execOp
    simp only [ho, resolve, invoke, builtin, Sem.run_bind, Sem.run_pure, Result.andThen_ok, List.map_toArray, List.map_cons, List.map_nil, hs, hx, hrun]
    exact h v w (by simpa using hown) (World.grownBy.refl _ _) fun k hk => .inl hk
  · obtain ⟨b, off, rfl, hb, hcc⟩ := hcell hm
    refine wp_append_lies w s x t ho base e i0 z size bytes ht hi hz0 hz1 hz2 hzs hsz v n xs hs hown ⟨b, off, none⟩ m cap ys hx hl ?_ h1 hm h63 hbytes hbase _ rfl ?_
    · intro j u hu
      rw [show (⟨b, off, none⟩ : Addr).add j = ⟨b, off + j, none⟩ by unfold Addr.add; split <;> simp_all]
      exact hcc j u hu
    · intro g cap' w' h2 h3 h4 _
      refine h _ w' h2 h3 fun k hk => ?_
      injection hk with hk
      subst hk
      rcases h4 with h4 | h4
      · exact .inl h4
      · exact .inr (by rw [h4]; exact Nat.le_refl _)
theorem step_i64 {w : World} {ops : Array Oper} {o : Oper} {a : Act} {K : Act → World → Prop} {Q : Exit → Act → World → Prop} {E : Prop} (hgd : o.guard = none) (s x : Operand)
    (ho : o.op = .call { callee := .builtin .append, args := #[s, x], argTypes := #[29, 29] }) {B : Nat} {v : Value} {xs : List Int} (hs : a.eval s = v) (hown : OwI 2 w B v xs)
    {y : Value} {ys : List Int} (hx : a.eval x = y) (hr : RdI w y ys) (hl : xs.length + ys.length ≤ 17592186044416) (hB : B ≤ w.heap.size)
    (h : ∀ v' w', OwI 2 w' B v' (xs ++ ys) → w.grownBy w' v.ownBlock → (∀ k, v'.ownBlock = some k → v.ownBlock = some k ∨ w.heap.size ≤ k) → K (a.put o.dst v') w') :
    if Region.wanted o (yielded ops a.tmps) = true then Oper.wp Try.prog o a w K Q else E :=
  step_many hgd s x _ ho B _ _ 1 8 Try.underlying29 info_i64 rfl (by omega) v xs.length _ hs hown y ys.length _ hx hr (ints_oneCell _ _) (by omega) (by unfold maxLen; omega) hB
    fun v' w' h1 h2 h3 => h v' w' (by unfold OwI; simpa using h1) h2 h3
end Go.Proofs.Ytpmflkoepnanoaa
