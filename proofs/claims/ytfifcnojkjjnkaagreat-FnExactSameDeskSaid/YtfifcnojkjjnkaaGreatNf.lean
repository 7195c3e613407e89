/- Trees of data, field by field; data that a call has made. No program is named here. -/
import Derived.Test.YtfifcnojkjjnkaaGreatNe
namespace Go.Proofs.YtfifcnojkjjnkaaGreat
open Go.RowKit
section
variable {w w' : World} {n : Int} {s : ByteArray} {E : TypeId} {sz : Nat} {xs ys : List T} {cs : List Value} {F : List Nat}
theorem T.rds_nil : T.rds w [] cs ↔ cs = [] := by simp only [T.rds]
theorem T.rds_num : T.rds w (.num n :: xs) cs ↔ ∃ cs', cs = .int .i64 n :: cs' ∧ T.rds w xs cs' := by
  simp only [T.rds, T.rd]
  constructor
  · rintro ⟨c1, c2, rfl, rfl, h⟩; exact ⟨c2, rfl, h⟩
  · rintro ⟨c2, rfl, h⟩; exact ⟨_, c2, rfl, rfl, h⟩
theorem T.rds_str : T.rds w (.str s :: xs) cs ↔ ∃ cs', cs = .string s :: cs' ∧ T.rds w xs cs' := by
  simp only [T.rds, T.rd]
  constructor
  · rintro ⟨c1, c2, rfl, rfl, h⟩; exact ⟨c2, rfl, h⟩
  · rintro ⟨c2, rfl, h⟩; exact ⟨_, c2, rfl, rfl, h⟩
theorem T.rd_one {c : List Value} (h : T.rd w (.sl E sz ys) c) : ∃ v, c = [v] := by
  simp only [T.rd] at h
  obtain ⟨v, _, rfl, _⟩ := h
  exact ⟨v, rfl⟩
theorem T.rds_sl : T.rds w (.sl E sz ys :: xs) cs ↔ ∃ v cs', cs = v :: cs' ∧ T.rd w (.sl E sz ys) [v] ∧ T.rds w xs cs' := by
  constructor
  · intro h
    simp only [T.rds] at h
    obtain ⟨c1, c2, rfl, h1, h2⟩ := h
    obtain ⟨v, rfl⟩ := T.rd_one h1
    exact ⟨v, c2, rfl, h1, h2⟩
  · rintro ⟨v, c2, rfl, h1, h2⟩
    simp only [T.rds]
    exact ⟨[v], c2, rfl, h1, h2⟩
theorem T.ows_nil : T.ows w [] F cs ↔ F = [] ∧ cs = [] := by simp only [T.ows]
theorem T.ows_num : T.ows w (.num n :: xs) F cs ↔ ∃ cs', cs = .int .i64 n :: cs' ∧ T.ows w xs F cs' := by
  simp only [T.ows, T.ow]
  constructor
  · rintro ⟨F1, F2, c1, c2, rfl, rfl, ⟨rfl, rfl⟩, h⟩; exact ⟨c2, rfl, h⟩
  · rintro ⟨c2, rfl, h⟩; exact ⟨[], F, _, c2, rfl, rfl, ⟨rfl, rfl⟩, h⟩
theorem T.ows_str : T.ows w (.str s :: xs) F cs ↔ ∃ cs', cs = .string s :: cs' ∧ T.ows w xs F cs' := by
  simp only [T.ows, T.ow]
  constructor
  · rintro ⟨F1, F2, c1, c2, rfl, rfl, ⟨rfl, rfl⟩, h⟩; exact ⟨c2, rfl, h⟩
  · rintro ⟨c2, rfl, h⟩; exact ⟨[], F, _, c2, rfl, rfl, ⟨rfl, rfl⟩, h⟩
theorem T.ows_sl : T.ows w (.sl E sz ys :: xs) F cs ↔ ∃ v cs' F1 F2, F = F1 ++ F2 ∧ cs = v :: cs' ∧ T.ow w (.sl E sz ys) F1 [v] ∧ T.ows w xs F2 cs' := by
  constructor
  · intro h
    simp only [T.ows] at h
    obtain ⟨F1, F2, c1, c2, rfl, rfl, h1, h2⟩ := h
    obtain ⟨v, rfl⟩ := T.rd_one (T.ow_rd _ _ _ h1)
    exact ⟨v, c2, F1, F2, rfl, rfl, h1, h2⟩
  · rintro ⟨v, c2, F1, F2, rfl, rfl, h1, h2⟩
    simp only [T.ows]
    exact ⟨F1, F2, [v], c2, rfl, rfl, h1, h2⟩
theorem T.c_rn (h : T.rds w xs cs) : T.rds w (.num n :: xs) (.int .i64 n :: cs) := T.rds_num.2 ⟨_, rfl, h⟩
theorem T.c_rs (h : T.rds w xs cs) : T.rds w (.str s :: xs) (.string s :: cs) := T.rds_str.2 ⟨_, rfl, h⟩
theorem T.c_rl {v : Value} (h : T.rd w (.sl E sz ys) [v]) (h2 : T.rds w xs cs) : T.rds w (.sl E sz ys :: xs) (v :: cs) := T.rds_sl.2 ⟨_, _, rfl, h, h2⟩
theorem T.c_re : T.rds w [] [] := T.rds_nil.2 rfl
theorem T.c_on (h : T.ows w xs F cs) : T.ows w (.num n :: xs) F (.int .i64 n :: cs) := T.ows_num.2 ⟨_, rfl, h⟩
theorem T.c_os (h : T.ows w xs F cs) : T.ows w (.str s :: xs) F (.string s :: cs) := T.ows_str.2 ⟨_, rfl, h⟩
theorem T.c_ol {v : Value} {F1 : List Nat} (h : T.ow w (.sl E sz ys) F1 [v]) (h2 : T.ows w xs F cs) : T.ows w (.sl E sz ys :: xs) (F1 ++ F) (v :: cs) := T.ows_sl.2 ⟨_, _, _, _, rfl, rfl, h, h2⟩
theorem T.c_oe : T.ows w [] [] [] := T.ows_nil.2 ⟨rfl, rfl⟩
theorem T.ow_far {x : T} {g : Nat} (h : T.ow w x F cs) (hg : g ∉ F) (o : Nat) (u : Value) : T.ow (w.setCell ⟨g, o, none⟩ u) x F cs :=
  T.ow_keep x F cs (fun b hb => Below.heap_setCell w _ u b (fun e => hg (by rw [← show b = g from e]; exact hb))) h
theorem T.ows_far {g : Nat} (h : T.ows w xs F cs) (hg : g ∉ F) (o : Nat) (u : Value) : T.ows (w.setCell ⟨g, o, none⟩ u) xs F cs :=
  T.ows_keep xs F cs (fun b hb => Below.heap_setCell w _ u b (fun e => hg (by rw [← show b = g from e]; exact hb))) h
end
theorem nodup_lo {F1 F2 : List Nat} {n : Nat} (h1 : F1.Nodup) (h2 : F2.Nodup) (a : ∀ b ∈ F1, b < n) (c : ∀ b ∈ F2, n ≤ b) : (F1 ++ F2).Nodup := by
  rw [List.nodup_append]
  exact ⟨h1, h2, fun x hx y hy e => by have := a x hx; have := c y hy; omega⟩
/-- Data that lies in new blocks. -/
structure Nw (w w' : World) (xs : List T) (F : List Nat) (cs : List Value) : Prop where
  ows : T.ows w' xs F cs
  nodup : F.Nodup
  lo : ∀ b ∈ F, w.heap.size ≤ b
  below : Below w.heap.size w w'
theorem Nw.lt {w w' : World} {xs : List T} {F : List Nat} {cs : List Value} (h : Nw w w' xs F cs) : ∀ b ∈ F, b < w'.heap.size := T.ows_lt _ _ _ h.ows
/-- One slice that lies in new blocks. -/
structure Nv (w w' : World) (x : T) (F : List Nat) (v : Value) : Prop where
  ow : T.ow w' x F [v]
  nodup : F.Nodup
  lo : ∀ b ∈ F, w.heap.size ≤ b
  below : Below w.heap.size w w'
theorem Nv.lt {w w' : World} {x : T} {F : List Nat} {v : Value} (h : Nv w w' x F v) : ∀ b ∈ F, b < w'.heap.size := T.ow_lt _ _ _ h.ow
theorem Nv.ints {w w' : World} {E : TypeId} {xs : List Int} {v : Value} (h : OwI E w' w.heap.size v xs) (hb : Below w.heap.size w w') : Nv w w' (T.ints E xs) v.ownBlock.toList v := by
  refine ⟨T.ow_ints.2 ⟨h.more (Nat.zero_le _), rfl⟩, ?_, ?_, hb⟩
  · cases v.ownBlock <;> simp
  · intro b hb; exact (h.lt b (by simpa using hb)).1
def I64 (n : Int) : Prop := -9223372036854775808 ≤ n ∧ n ≤ 9223372036854775807
def smL {α : Type} (p : α → Prop) (xs : List α) : Prop := xs.length ≤ 1048576 ∧ ∀ x ∈ xs, p x
theorem all_take {α : Type} {p : α → Prop} {xs : List α} {k : Nat} {x : α} (h : ∀ y ∈ xs.take k, p y) (hk : xs[k]? = some x) (hx : p x) : ∀ y ∈ xs.take (k + 1), p y := by
  intro y hy
  rw [take_snoc_of hk] at hy
  rcases List.mem_append.1 hy with hy | hy
  · exact h y hy
  · simp at hy; subst hy; exact hx
theorem all_full {α : Type} {p : α → Prop} {xs : List α} (h : ∀ y ∈ xs.take xs.length, p y) : ∀ y ∈ xs, p y := by rwa [List.take_length] at h
end Go.Proofs.YtfifcnojkjjnkaaGreat
