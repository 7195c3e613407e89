/- Words: a slice of elements opened; a struct behind a pointer. -/
import Derived.Test.YtfifcnojkjjnkaaGreatEd
import Derived.Test.YtfifcnojkjjnkaaGreatLk
namespace Go.Proofs.YtfifcnojkjjnkaaGreat
open Go.RowKit
theorem T.rd_openG {w : World} {E : TypeId} {sz : Nat} {α : Type} {tr : α → T} {xs : List α} {v : Value} (h : T.rd w (.sl E sz (xs.map tr)) [v]) :
    ∃ A cap, v = .slice A xs.length cap ∧ xs.length ≤ cap ∧ cap ≤ 9223372036854775807 ∧
      (∀ k x, xs[k]? = some x → ∃ b off cs, A = some ⟨b, off, none⟩ ∧ b < w.heap.size ∧ T.rd w (tr x) cs ∧ ∀ j u, cs[j]? = some u → w.cell? ⟨b, off + (k * sz + j), none⟩ = some u) := by
  obtain ⟨A, cap, hv, h1, h2, h3⟩ := T.rd_open h
  rw [List.length_map] at hv h1
  exact ⟨A, cap, hv, h1, h2, fun k x hk => h3 k (tr x) (by rw [List.getElem?_map, hk]; rfl)⟩
theorem T.rds_below' {w w' : World} {x : List T} {cs : List Value} (h : T.rds w x cs) (hb : Below w.heap.size w w') : T.rds w' x cs := T.rds_keep hb.size hb.block x cs h
/-- The struct's cells lie from place o of block b on. -/
def T.at (w : World) (fs : List T) (b o : Nat) : Prop := b < w.heap.size ∧ ∃ cs, T.rds w fs cs ∧ ∀ j u, cs[j]? = some u → w.cell? ⟨b, o + j, none⟩ = some u
theorem T.at_below {w w' : World} {fs : List T} {b o : Nat} (h : T.at w fs b o) (hb : Below w.heap.size w w') : T.at w' fs b o := by
  obtain ⟨h1, cs, h2, h3⟩ := h
  exact ⟨Nat.lt_of_lt_of_le h1 hb.size, cs, T.rds_below' h2 hb, fun j u hj => (hb.cell h1).trans (h3 j u hj)⟩
theorem T.at_drewN {w : World} {fs : List T} {b o : Nat} (h : T.at w fs b o) (n : Nat) : T.at (w.drewN n) fs b o := T.at_below h ⟨rfl, rfl, rfl, Nat.le_refl _, fun _ _ => rfl⟩
theorem T.rds_drewN {w : World} {fs : List T} {cs : List Value} (h : T.rds w fs cs) (n : Nat) : T.rds (w.drewN n) fs cs := T.rds_below' h ⟨rfl, rfl, rfl, Nat.le_refl _, fun _ _ => rfl⟩
/-- An element of a slice, as a struct behind a pointer. -/
theorem T.at_elem {w : World} {fs : List T} {b off k sz o : Nat} {cs : List Value} (hb : b < w.heap.size) (h : T.rds w fs cs) (hc : ∀ j u, cs[j]? = some u → w.cell? ⟨b, off + (k * sz + j), none⟩ = some u) (ho : o = off + k * sz) : T.at w fs b o :=
  ⟨hb, cs, h, fun j u hj => by rw [ho, Nat.add_assoc]; exact hc j u hj⟩
/-- A block known whole, as a struct behind a pointer. -/
theorem T.at_bk {w : World} {fs : List T} {b : Nat} {t : TypeId} {cs : List Value} (hk : Bk w b t cs.toArray) (h : T.rds w fs cs) : T.at w fs b 0 :=
  ⟨hk.lt, cs, h, fun j u hj => by rw [Nat.zero_add, hk.cell j]; simpa using hj⟩
theorem beqI_f {a b : Int} (h : a ≠ b) : (a == b) = false := beq_false_of_ne h
theorem beqI_t {a b : Int} (h : a = b) : (a == b) = true := by simp [h]
theorem bneI_t {a b : Int} (h : a ≠ b) : (a != b) = true := by simp [h]
theorem bneI_f {a b : Int} (h : a = b) : (a != b) = false := by simp [h]
/-- Any world in which what lies in W still lies as it did. -/
noncomputable def bel (W u : World) : World := @ite _ (Below W.heap.size W u) (Classical.propDecidable _) u W
theorem bel_below (W u : World) : Below W.heap.size W (bel W u) := by
  unfold bel
  split
  · assumption
  · exact Below.refl _ _
theorem bel_of {W u : World} (h : Below W.heap.size W u) : u = bel W u := by
  unfold bel
  rw [if_pos h]
theorem bel_cell {W : World} {b o : Nat} {v : Value} (h : W.cell? ⟨b, o, none⟩ = some v) : ∀ u, (bel W u).cell? ⟨b, o, none⟩ = some v := fun u =>
  ((bel_below W u).cell (World.block_lt_of_cell? W _ h)).trans h
theorem bel_bk {W : World} {g : Nat} {t : TypeId} {cs : Array Value} (h : Bk W g t cs) : ∀ u i, (bel W u).cell? ⟨g, i, none⟩ = cs[i]? := fun u i =>
  (h.below (bel_below W u) h.lt).cell i
/-- A region that draws its order, whose operations and calls leave what was there as it was: one walk in the order of the text. -/
theorem wp_region_bel {P : Program} {id : Nat} {Q : Exit → Act → World → Prop} {a : Act} {w : World} {l : List Oper} (hm : P.follows .mixedOrders = true) (hB : Region.lexB .any l.toArray = true)
    (h : wpQuiet P l.toArray (fun w' => ∃ u, w' = bel w u) (fun a' => ∀ w', (∃ u, w' = bel w u) → Q .normal a' w') l a) : (Code.region id l.toArray true).wp P Q a w :=
  wp_region_quiet (C := fun w' => ∃ u, w' = bel w u) hm hB ⟨_, bel_of ⟨rfl, rfl, rfl, Nat.le_refl _, fun _ _ => rfl⟩⟩ (by simpa using h)
theorem Calls.quiet_bel {P : Program} {f : FuncId} {args : Array Value} {w u : World} {v : Value}
    (h : Calls P f args (bel w u) fun e w' => e = .returned v ∧ Below (bel w u).heap.size (bel w u) w') : Calls P f args (bel w u) fun e w'' => e = .returned v ∧ ∃ m, w'' = bel w m :=
  h.mono fun _ w' ⟨he, hb⟩ => ⟨he, w', bel_of (bthen (bel_below w u) (bel_below w u).size hb)⟩
theorem Calls.quiet_bel_same {P : Program} {f : FuncId} {args : Array Value} {w u : World} {v : Value}
    (h : Calls P f args (bel w u) fun e w' => e = .returned v ∧ bel w u = w') : Calls P f args (bel w u) fun e w'' => e = .returned v ∧ ∃ m, w'' = bel w m :=
  h.mono fun _ w' ⟨he, hb⟩ => ⟨he, u, hb.symm⟩
theorem Calls.quiet_bel_dr {P : Program} {f : FuncId} {args : Array Value} {w u : World} {v : Value}
    (h : Calls P f args (bel w u) fun e w' => e = .returned v ∧ Dr (bel w u) w') : Calls P f args (bel w u) fun e w'' => e = .returned v ∧ ∃ m, w'' = bel w m :=
  Calls.quiet_bel (h.mono fun _ _ ⟨he, hb⟩ => ⟨he, hb.to_below _⟩)
end Go.Proofs.YtfifcnojkjjnkaaGreat
