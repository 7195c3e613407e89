/- Words for memory: a block known whole; a world that differs in one block. -/
import Derived.Test.YtfifcnojkjjnkaaGreatLb
namespace Go.Proofs.YtfifcnojkjjnkaaGreat
open Go.RowKit
/-- Block g is known whole: its cells are cs, of element type t, none of them frozen. -/
def Bk (w : World) (g : Nat) (t : TypeId) (cs : Array Value) : Prop := w.heap[g]? = some (.cells cs t (0, 0))
section
variable {w w' : World} {g : Nat} {t : TypeId} {cs : Array Value}
theorem Bk.lt (h : Bk w g t cs) : g < w.heap.size := (Array.getElem?_eq_some_iff.1 h).1
theorem Bk.cell (h : Bk w g t cs) (i : Nat) : w.cell? ⟨g, i, none⟩ = cs[i]? := by unfold World.cell?; unfold Bk at h; simp [h]
theorem Bk.free (h : Bk w g t cs) (i : Nat) : w.frozen? ⟨g, i, none⟩ = false := by unfold World.frozen?; unfold Bk at h; simp [h]
theorem Bk.born (w : World) (t : TypeId) (cs : Array Value) : Bk (w.alloc (.cells cs t)) w.heap.size t cs := heap_alloc_new w _
theorem Bk.drewN (h : Bk w g t cs) (n : Nat) : Bk (w.drewN n) g t cs := h
theorem Bk.alloc (h : Bk w g t cs) (o : Obj) : Bk (w.alloc o) g t cs := (Below.heap_alloc w o g h.lt).trans h
theorem Bk.below {B : Nat} (h : Bk w g t cs) (hb : Below B w w') (hg : g < B) : Bk w' g t cs := (hb.block g hg).trans h
theorem Bk.grown {row : Option Nat} (h : Bk w g t cs) (hb : w.grownBy w' row) (hg : some g ≠ row) : Bk w' g t cs := (hb.block g h.lt hg).trans h
theorem Bk.far (h : Bk w g t cs) {p : Addr} (hp : g ≠ p.block) (u : Value) : Bk (w.setCell p u) g t cs := (Below.heap_setCell w p u g hp).trans h
theorem Bk.set_ (h : Bk w g t cs) (i : Nat) (u : Value) : Bk (w.setCell ⟨g, i, none⟩ u) g t (cs.setIfInBounds i u) := by
  unfold Bk at *
  unfold World.setCell
  simp [Array.getElem?_modify, h]
end
theorem OwI.far {E : TypeId} {w : World} {B : Nat} {v : Value} {xs : List Int} (h : OwI E w B v xs) {p : Addr} (hp : ∀ b, v.ownBlock = some b → b ≠ p.block) (u : Value) : OwI E (w.setCell p u) B v xs := by
  refine ⟨h.1, ?_⟩
  rcases h.2 with hn | ⟨g, cap, cur, rfl, hbg, hg, rest⟩
  · exact .inl hn
  · exact .inr ⟨g, cap, cur, rfl, hbg, by rw [Below.heap_setCell w p u g (hp g rfl)]; exact hg, rest⟩
theorem below_of_alloc {w w1 : World} {o : Obj} (h : Below (w.alloc o).heap.size (w.alloc o) w1) : Below w.heap.size w w1 := ((Below.refl _ _).alloc (Nat.le_refl _) o).trans (h.mono (by simp))
/-- Only block g, and draws, lie between. -/
def Gr (g : Nat) (w w' : World) : Prop := w.grownBy w' (some g) ∧ w'.heap.size = w.heap.size
theorem Gr.refl (g : Nat) (w : World) : Gr g w w := ⟨World.grownBy.refl _ _, rfl⟩
theorem Gr.trans {g : Nat} {a b c : World} (h : Gr g a b) (k : Gr g b c) : Gr g a c := ⟨h.1.trans k.1, k.2.trans h.2⟩
theorem Gr.drewN {g : Nat} {a b : World} (h : Gr g a b) (n : Nat) : Gr g a (b.drewN n) := ⟨⟨h.1.os, h.1.tape, h.1.output, h.1.size, h.1.block⟩, h.2⟩
theorem Gr.drew {g : Nat} {a b : World} (h : Gr g a b) : Gr g a b.drew := ⟨⟨h.1.os, h.1.tape, h.1.output, h.1.size, h.1.block⟩, h.2⟩
theorem Gr.set_ {g : Nat} {a b : World} (h : Gr g a b) (i : Nat) (u : Value) : Gr g a (b.setCell ⟨g, i, none⟩ u) :=
  ⟨⟨h.1.os, h.1.tape, h.1.output, by simpa [World.setCell] using h.1.size, fun k hk hne => (Below.heap_setCell b _ u k (fun e => hne (by rw [e]))).trans (h.1.block k hk hne)⟩, by simpa [World.setCell] using h.2⟩
theorem Gr.below {g B : Nat} {w0 a b : World} (hb : Below B w0 a) (h : Gr g a b) (hg : B ≤ g) (hB : B ≤ a.heap.size) : Below B w0 b := hb.grown h.1 hB fun k hk => by injection hk with hk; omega
end Go.Proofs.YtfifcnojkjjnkaaGreat
