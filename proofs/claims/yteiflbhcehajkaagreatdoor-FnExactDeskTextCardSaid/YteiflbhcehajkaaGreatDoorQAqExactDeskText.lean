/- A slice of the call's own that grows beside other data of its own. No program is named here. -/
import Derived.Test.YteiflbhcehajkaaGreatDoorQApExactDeskText
set_option linter.unusedVariables false
set_option linter.unusedSimpArgs false
namespace Go.Proofs.YteiflbhcehajkaaGreatDoor
open Go.RowKit
/-- The slice v (elements xs, blocks F) and the other data os (blocks FR), all of the call's own, from B on. -/
structure Grow (B : Nat) (w : World) (E : TypeId) (sz : Nat) (xs : List T) (F : List Nat) (v : Value) (os : List T) (FR : List Nat) (cr : List Value) : Prop where
  own : Own B w (.sl E sz xs) F v
  rest : T.ows w os FR cr
  nd : FR.Nodup
  lo : ∀ b ∈ FR, B ≤ b
  dj : ∀ b ∈ F, b ∉ FR
section
variable {B : Nat} {w w' : World} {E E' : TypeId} {sz sz' : Nat} {xs : List T} {x : T} {F F' Fx FR : List Nat} {v v' : Value} {os : List T} {cr : List Value}
theorem Grow.all (h : Grow B w E sz xs F v os FR cr) (hb : Below w.heap.size w w') : Grow B w' E sz xs F v os FR cr :=
  ⟨h.own.all hb, T.ows_all h.rest hb, h.nd, h.lo, h.dj⟩
theorem Grow.lt (h : Grow B w E sz xs F v os FR cr) : ∀ b ∈ F, b < w.heap.size := h.own.lt
theorem Grow.ltR (h : Grow B w E sz xs F v os FR cr) : ∀ b ∈ FR, b < w.heap.size := T.ows_lt _ _ _ h.rest
theorem Grow.far {g : Nat} (h : Grow B w E sz xs F v os FR cr) (h1 : g ∉ F) (h2 : g ∉ FR) (o : Nat) (u : Value) : Grow B (w.setCell ⟨g, o, none⟩ u) E sz xs F v os FR cr :=
  ⟨⟨T.ow_far h.own.ow h1 o u, h.own.nodup, h.own.lo⟩, T.ows_far h.rest h2 o u, h.nd, h.lo, h.dj⟩
theorem Grow.app (h : Grow B w E sz xs F v os FR cr) (ho : Own B w' (.sl E sz (xs ++ [x])) F' v') (hg : w.grownBy w' v.ownBlock) (hv : ∀ b ∈ F', b ∈ F ∨ b ∈ Fx ∨ w.heap.size ≤ b) (hd : ∀ b ∈ Fx, b ∉ FR) :
    Grow B w' E sz (xs ++ [x]) F' v' os FR cr := by
  refine ⟨ho, T.ows_keep _ _ _ (fun b hb => hg.block b (h.ltR b hb) (fun e => h.dj b (h.own.mem b e.symm) hb)) h.rest, h.nd, h.lo, fun b hb hm => ?_⟩
  rcases hv b hb with k | k | k
  · exact h.dj b k hm
  · exact hd b k hm
  · have := h.ltR b hm; omega
theorem Grow.out {g : Nat} (hv : ∀ b ∈ F', b ∈ F ∨ b ∈ Fx ∨ w.heap.size ≤ b) (h1 : g ∉ F) (h2 : g ∉ Fx) (h3 : g < w.heap.size) : g ∉ F' := fun hm => by
  rcases hv g hm with k | k | k
  · exact h1 k
  · exact h2 k
  · omega
theorem Grow.below {w0 : World} (h : Grow B w E sz xs F v os FR cr) (hb : Below B w0 w) (hB : B ≤ w.heap.size) (hg : w.grownBy w' v.ownBlock) : Below B w0 w' := h.own.below hb hB hg
theorem Bk.drew {g : Nat} {t : TypeId} {cs : Array Value} (h : Bk w g t cs) : Bk w.drew g t cs := h
end
end Go.Proofs.YteiflbhcehajkaaGreatDoor
