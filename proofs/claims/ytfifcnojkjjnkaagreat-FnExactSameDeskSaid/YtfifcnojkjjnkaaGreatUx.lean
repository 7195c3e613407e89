/- Words for memory: a slice of the call's own between two marks of the heap. No program is named here. -/
import Derived.Test.YtfifcnojkjjnkaaGreatUa
namespace Go.Proofs.YtfifcnojkjjnkaaGreat
open Go.RowKit
def FrG {α : Type} (enc : α → List Value) (sz : Nat) (E : TypeId) (w : World) (lo hi : Nat) (v : Value) (xs : List α) : Prop := OwG enc sz E w lo v xs ∧ ∀ k, v.ownBlock = some k → k < hi
section
variable {α : Type} {enc : α → List Value} {sz : Nat} {w w' : World} {E : TypeId} {lo hi : Nat} {v : Value} {xs ys : List α}
theorem FrG.born (h : OwG enc sz E w' w.heap.size v xs) : FrG enc sz E w' w.heap.size w'.heap.size v xs := ⟨h, fun k hk => (h.lt k hk).2⟩
theorem FrG.rd (h : FrG enc sz E w lo hi v xs) : RdG enc sz w v xs := h.1.rd
theorem FrG.below {B : Nat} (h : FrG enc sz E w lo hi v xs) (hb : Below B w w') (hB : hi ≤ B) : FrG enc sz E w' lo hi v xs := ⟨h.1.below hb fun b hb => Nat.lt_of_lt_of_le (h.2 b hb) hB, h.2⟩
theorem FrG.mark (h : FrG enc sz E w lo hi v xs) (h2 : OwG enc sz E w' lo v ys) : FrG enc sz E w' lo hi v ys := ⟨h2, h.2⟩
theorem FrG.other {β : Type} {enc' : β → List Value} {sz' : Nat} {E' : TypeId} {lo' hi' : Nat} {v' : Value} {zs : List β} (h : FrG enc sz E w lo hi v xs) (h' : FrG enc' sz' E' w lo' hi' v' zs) (hg : w.grownBy w' v'.ownBlock) (hd : hi ≤ lo' ∨ hi' ≤ lo) : FrG enc sz E w' lo hi v xs := by
  refine ⟨⟨h.1.1, h.1.2.1, ?_⟩, h.2⟩
  rcases h.1.2.2 with hn | ⟨g, cap, cur, rfl, hbg, hg', rest⟩
  · exact .inl hn
  · refine .inr ⟨g, cap, cur, rfl, hbg, ?_, rest⟩
    rw [hg.block g (Array.getElem?_eq_some_iff.1 hg').1 ?_]
    · exact hg'
    · intro e
      have h1 := h'.1.lt g e.symm
      have h2 := h'.2 g e.symm
      have h3 := h.2 g rfl
      omega
theorem FrG.below_mark {B : Nat} {w0 : World} (h : FrG enc sz E w lo hi v xs) (hb : Below B w0 w) (hg : w.grownBy w' v.ownBlock) (h1 : B ≤ lo) (h2 : B ≤ w.heap.size) : Below B w0 w' := below_own hb h.1.2 hg h1 h2
theorem grown_set (w : World) (g o : Nat) (u : Value) : w.grownBy (w.setCell ⟨g, o, none⟩ u) (some g) :=
  ⟨rfl, rfl, rfl, by simp [World.setCell], fun k _ hne => Below.heap_setCell w _ u k (fun e => hne (by rw [e]))⟩
theorem grown_below {w w' : World} (h : Below w.heap.size w w') (r : Option Nat) : w.grownBy w' r := ⟨h.os, h.tape, h.output, h.size, fun k hk _ => h.block k hk⟩
end
end Go.Proofs.YtfifcnojkjjnkaaGreat
