/- Words for memory: a slice of the call's own between two marks of the heap. No program is named here. -/
import Derived.Test.YtjapidcbfnknkaaDoorUa
namespace Go.Proofs.YtjapidcbfnknkaaDoor
open Go.RowKit
def FrG {α : Type} (enc : α → List Value) (sz : Nat) (E : TypeId) (w : World) (lo hi : Nat) (v : Value) (xs : List α) : Prop := OwG enc sz E w lo v xs ∧ ∀ k, v.ownBlock = some k → k < hi
section
variable {α : Type} {enc : α → List Value} {sz : Nat} {w w' : World} {E : TypeId} {lo hi : Nat} {v : Value} {xs ys : List α}
theorem FrG.born (h : OwG enc sz E w' w.heap.size v xs) : FrG enc sz E w' w.heap.size w'.heap.size v xs := ⟨h, fun k hk => (h.lt k hk).2⟩
theorem FrG.rd (h : FrG enc sz E w lo hi v xs) : RdG enc sz w v xs := h.1.rd
theorem FrG.below {B : Nat} (h : FrG enc sz E w lo hi v xs) (hb : Below B w w') (hB : hi ≤ B) : FrG enc sz E w' lo hi v xs := ⟨h.1.below hb fun b hb => Nat.lt_of_lt_of_le (h.2 b hb) hB, h.2⟩
theorem FrG.mark (h : FrG enc sz E w lo hi v xs) (h2 : OwG enc sz E w' lo v ys) : FrG enc sz E w' lo hi v ys := ⟨h2, h.2⟩
end
end Go.Proofs.YtjapidcbfnknkaaDoor
