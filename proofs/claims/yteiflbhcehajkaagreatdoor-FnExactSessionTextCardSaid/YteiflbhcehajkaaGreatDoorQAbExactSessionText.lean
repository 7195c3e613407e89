/- Trees of data in memory: what a slice of structs of slices reads as, and whose blocks it takes. No program is named here. Trees of data, field by field; data that a call has made. No program is named here. Nested data: sessions, desks and their parts; how they lie in memory. Arguments: a slice of structs that came in reads as a list. No program is named here. Arguments that are structs of slices of structs read as nested data. No program is named here. -/
import Derived.Test.YteiflbhcehajkaaGreatDoorQAaExactSessionText
import Derived.Test.YteiflbhcehajkaaGreatDoorRows
import Derived.Deep.Slices
import Derived.ChangeSame
import Derived.ChangeArms
set_option linter.unusedVariables false
set_option linter.unusedSimpArgs false
section
namespace Go.Proofs.YteiflbhcehajkaaGreatDoor
open Go.RowKit
/-- Data: a number, a text, a slice (its element's type, the cells of an element, the elements), a struct. -/
inductive T where
  | num (n : Int)
  | str (s : ByteArray)
  | sl (E : TypeId) (sz : Nat) (xs : List T)
  | st (fs : List T)
mutual
/-- How many cells. -/
def T.wide : T → Nat
  | .num _ => 1
  | .str _ => 1
  | .sl _ _ _ => 1
  | .st fs => T.wides fs
def T.wides : List T → Nat
  | [] => 0
  | x :: xs => T.wide x + T.wides xs
end
mutual
/-- The cells read as the data. -/
def T.rd (w : World) : T → List Value → Prop
  | .num n, cs => cs = [.int .i64 n]
  | .str s, cs => cs = [.string s]
  | .sl _ sz xs, cs => ∃ v es, cs = [v] ∧ (∀ x ∈ xs, T.wide x = sz) ∧ Rd w v sz xs.length es ∧ T.rds w xs es
  | .st fs, cs => T.rds w fs cs
def T.rds (w : World) : List T → List Value → Prop
  | [], cs => cs = []
  | x :: xs, cs => ∃ c1 c2, cs = c1 ++ c2 ∧ T.rd w x c1 ∧ T.rds w xs c2
end
mutual
/-- The cells read as the data, whose slices lie in blocks of their own, F. -/
def T.ow (w : World) : T → List Nat → List Value → Prop
  | .num n, F, cs => F = [] ∧ cs = [.int .i64 n]
  | .str s, F, cs => F = [] ∧ cs = [.string s]
  | .sl E sz xs, F, cs => ∃ v es G, cs = [v] ∧ F = v.ownBlock.toList ++ G ∧ (∀ x ∈ xs, T.wide x = sz) ∧ w.ownsRow 0 E sz v xs.length es ∧ T.ows w xs G es
  | .st fs, F, cs => T.ows w fs F cs
def T.ows (w : World) : List T → List Nat → List Value → Prop
  | [], F, cs => F = [] ∧ cs = []
  | x :: xs, F, cs => ∃ F1 F2 c1 c2, F = F1 ++ F2 ∧ cs = c1 ++ c2 ∧ T.ow w x F1 c1 ∧ T.ows w xs F2 c2
end
mutual
theorem T.rd_len {w : World} : ∀ (x : T) (cs : List Value), T.rd w x cs → cs.length = T.wide x
  | .num _, _, h => by simp only [T.rd] at h; subst h; rfl
  | .str _, _, h => by simp only [T.rd] at h; subst h; rfl
  | .sl _ _ _, _, h => by simp only [T.rd] at h; obtain ⟨v, es, rfl, _⟩ := h; rfl
  | .st fs, cs, h => by simp only [T.rd] at h; simp only [T.wide]; exact T.rds_len fs cs h
theorem T.rds_len {w : World} : ∀ (xs : List T) (cs : List Value), T.rds w xs cs → cs.length = T.wides xs
  | [], _, h => by simp only [T.rds] at h; subst h; rfl
  | x :: xs, _, h => by
    simp only [T.rds] at h
    obtain ⟨c1, c2, rfl, h1, h2⟩ := h
    simp only [T.wides, List.length_append, T.rd_len x c1 h1, T.rds_len xs c2 h2]
end
mutual
theorem T.rd_keep {w w' : World} (hs : w.heap.size ≤ w'.heap.size) (hk : ∀ b, b < w.heap.size → w'.heap[b]? = w.heap[b]?) : ∀ (x : T) (cs : List Value), T.rd w x cs → T.rd w' x cs
  | .num _, _, h => by simpa only [T.rd] using h
  | .str _, _, h => by simpa only [T.rd] using h
  | .sl _ _ xs, _, h => by
    simp only [T.rd] at h ⊢
    obtain ⟨v, es, rfl, hw, h1, h2⟩ := h
    exact ⟨v, es, rfl, hw, h1.keep hs (fun b _ hb => hk b hb), T.rds_keep hs hk xs es h2⟩
  | .st fs, cs, h => by simp only [T.rd] at h ⊢; exact T.rds_keep hs hk fs cs h
theorem T.rds_keep {w w' : World} (hs : w.heap.size ≤ w'.heap.size) (hk : ∀ b, b < w.heap.size → w'.heap[b]? = w.heap[b]?) : ∀ (xs : List T) (cs : List Value), T.rds w xs cs → T.rds w' xs cs
  | [], _, h => by simpa only [T.rds] using h
  | x :: xs, _, h => by
    simp only [T.rds] at h ⊢
    obtain ⟨c1, c2, rfl, h1, h2⟩ := h
    exact ⟨c1, c2, rfl, T.rd_keep hs hk x c1 h1, T.rds_keep hs hk xs c2 h2⟩
end
mutual
theorem T.ow_rd {w : World} : ∀ (x : T) (F : List Nat) (cs : List Value), T.ow w x F cs → T.rd w x cs
  | .num _, _, _, h => by simp only [T.ow] at h; simp only [T.rd]; exact h.2
  | .str _, _, _, h => by simp only [T.ow] at h; simp only [T.rd]; exact h.2
  | .sl _ _ xs, _, _, h => by
    simp only [T.ow] at h
    simp only [T.rd]
    obtain ⟨v, es, G, rfl, rfl, hw, h1, h2⟩ := h
    exact ⟨v, es, rfl, hw, Rd.of_own h1, T.ows_rds xs G es h2⟩
  | .st fs, F, cs, h => by simp only [T.ow] at h; simp only [T.rd]; exact T.ows_rds fs F cs h
theorem T.ows_rds {w : World} : ∀ (xs : List T) (F : List Nat) (cs : List Value), T.ows w xs F cs → T.rds w xs cs
  | [], _, _, h => by simp only [T.ows] at h; simp only [T.rds]; exact h.2
  | x :: xs, _, _, h => by
    simp only [T.ows] at h
    simp only [T.rds]
    obtain ⟨F1, F2, c1, c2, rfl, rfl, h1, h2⟩ := h
    exact ⟨c1, c2, rfl, T.ow_rd x F1 c1 h1, T.ows_rds xs F2 c2 h2⟩
end
theorem ownsRow_keep {w w' : World} {B : Nat} {E : TypeId} {sz n : Nat} {v : Value} {es : List Value} (hk : ∀ b, v.ownBlock = some b → w'.heap[b]? = w.heap[b]?) (h : w.ownsRow B E sz v n es) : w'.ownsRow B E sz v n es := by
  refine ⟨h.1, ?_⟩
  rcases h.2 with hn | ⟨g, cap, cur, rfl, hbg, hg, rest⟩
  · exact .inl hn
  · exact .inr ⟨g, cap, cur, rfl, hbg, (hk g rfl).trans hg, rest⟩
mutual
theorem T.ow_keep {w w' : World} : ∀ (x : T) (F : List Nat) (cs : List Value), (∀ b ∈ F, w'.heap[b]? = w.heap[b]?) → T.ow w x F cs → T.ow w' x F cs
  | .num _, _, _, _, h => by simpa only [T.ow] using h
  | .str _, _, _, _, h => by simpa only [T.ow] using h
  | .sl _ _ xs, _, _, hk, h => by
    simp only [T.ow] at h ⊢
    obtain ⟨v, es, G, rfl, rfl, hw, h1, h2⟩ := h
    exact ⟨v, es, G, rfl, rfl, hw, ownsRow_keep (fun b hb => hk b (by simp [hb])) h1, T.ows_keep xs G es (fun b hb => hk b (by simp [hb])) h2⟩
  | .st fs, F, cs, hk, h => by simp only [T.ow] at h ⊢; exact T.ows_keep fs F cs hk h
theorem T.ows_keep {w w' : World} : ∀ (xs : List T) (F : List Nat) (cs : List Value), (∀ b ∈ F, w'.heap[b]? = w.heap[b]?) → T.ows w xs F cs → T.ows w' xs F cs
  | [], _, _, _, h => by simpa only [T.ows] using h
  | x :: xs, _, _, hk, h => by
    simp only [T.ows] at h ⊢
    obtain ⟨F1, F2, c1, c2, rfl, rfl, h1, h2⟩ := h
    exact ⟨F1, F2, c1, c2, rfl, rfl, T.ow_keep x F1 c1 (fun b hb => hk b (by simp [hb])) h1, T.ows_keep xs F2 c2 (fun b hb => hk b (by simp [hb])) h2⟩
end
mutual
theorem T.ow_lt {w : World} : ∀ (x : T) (F : List Nat) (cs : List Value), T.ow w x F cs → ∀ b ∈ F, b < w.heap.size
  | .num _, _, _, h => by simp only [T.ow] at h; simp [h.1]
  | .str _, _, _, h => by simp only [T.ow] at h; simp [h.1]
  | .sl _ _ xs, _, _, h => by
    simp only [T.ow] at h
    obtain ⟨v, es, G, rfl, rfl, hw, h1, h2⟩ := h
    intro b hb
    rcases List.mem_append.1 hb with hb | hb
    · exact (h1.lt b (by simpa using hb)).2
    · exact T.ows_lt xs G es h2 b hb
  | .st fs, F, cs, h => by simp only [T.ow] at h; exact T.ows_lt fs F cs h
theorem T.ows_lt {w : World} : ∀ (xs : List T) (F : List Nat) (cs : List Value), T.ows w xs F cs → ∀ b ∈ F, b < w.heap.size
  | [], _, _, h => by simp only [T.ows] at h; simp [h.1]
  | x :: xs, _, _, h => by
    simp only [T.ows] at h
    obtain ⟨F1, F2, c1, c2, rfl, rfl, h1, h2⟩ := h
    intro b hb
    rcases List.mem_append.1 hb with hb | hb
    · exact T.ow_lt x F1 c1 h1 b hb
    · exact T.ows_lt xs F2 c2 h2 b hb
end
theorem T.ows_len {w : World} {xs : List T} {F : List Nat} {cs : List Value} (h : T.ows w xs F cs) : cs.length = T.wides xs := T.rds_len xs cs (T.ows_rds xs F cs h)
theorem T.ows_app {w : World} : ∀ (xs ys : List T) (F : List Nat) (cs : List Value), T.ows w (xs ++ ys) F cs ↔ ∃ F1 F2 c1 c2, F = F1 ++ F2 ∧ cs = c1 ++ c2 ∧ T.ows w xs F1 c1 ∧ T.ows w ys F2 c2
  | [], ys, F, cs => by
    constructor
    · intro h; exact ⟨[], F, [], cs, rfl, rfl, by simp [T.ows], h⟩
    · rintro ⟨F1, F2, c1, c2, rfl, rfl, h1, h2⟩
      simp only [T.ows] at h1
      obtain ⟨rfl, rfl⟩ := h1
      simpa using h2
  | x :: xs, ys, F, cs => by
    simp only [List.cons_append, T.ows, T.ows_app xs ys]
    constructor
    · rintro ⟨F1, _, c1, _, rfl, rfl, h1, F2, F3, c2, c3, rfl, rfl, h2, h3⟩
      exact ⟨F1 ++ F2, F3, c1 ++ c2, c3, by simp, by simp, ⟨F1, F2, c1, c2, rfl, rfl, h1, h2⟩, h3⟩
    · rintro ⟨_, F3, _, c3, rfl, rfl, ⟨F1, F2, c1, c2, rfl, rfl, h1, h2⟩, h3⟩
      exact ⟨F1, F2 ++ F3, c1, c2 ++ c3, by simp, by simp, h1, F2, F3, c2, c3, rfl, rfl, h2, h3⟩
theorem T.wides_mul {sz : Nat} : ∀ (xs : List T), (∀ x ∈ xs, T.wide x = sz) → T.wides xs = xs.length * sz
  | [], _ => by simp [T.wides]
  | x :: xs, h => by
    simp only [T.wides, List.length_cons, h x (by simp), T.wides_mul xs (fun y hy => h y (by simp [hy]))]
    rw [Nat.add_mul]; omega
/-- The k-th element's cells. -/
theorem T.rds_at {w : World} {sz : Nat} : ∀ (xs : List T) (es : List Value) (k : Nat) (x : T), (∀ x ∈ xs, T.wide x = sz) → T.rds w xs es → xs[k]? = some x → ∃ cs, T.rd w x cs ∧ ∀ j u, cs[j]? = some u → es[k * sz + j]? = some u
  | [], _, _, _, _, _, hk => by simp at hk
  | y :: xs, es, k, x, hw, h, hk => by
    simp only [T.rds] at h
    obtain ⟨c1, c2, rfl, h1, h2⟩ := h
    have hl := T.rd_len y c1 h1
    rw [hw y (by simp)] at hl
    cases k with
    | zero =>
      simp at hk; subst hk
      refine ⟨c1, h1, fun j u hj => ?_⟩
      rw [Nat.zero_mul, Nat.zero_add, List.getElem?_append_left (List.getElem?_eq_some_iff.1 hj).1]
      exact hj
    | succ k =>
      obtain ⟨cs, h3, h4⟩ := T.rds_at xs c2 k x (fun z hz => hw z (by simp [hz])) h2 (by simpa using hk)
      refine ⟨cs, h3, fun j u hj => ?_⟩
      have e : (k + 1) * sz + j = c1.length + (k * sz + j) := by rw [hl, Nat.add_mul]; omega
      rw [e, List.getElem?_append_right (by omega), Nat.add_sub_cancel_left]
      exact h4 j u hj
/-- A slice that reads is opened. -/
theorem T.rd_open {w : World} {E : TypeId} {sz : Nat} {xs : List T} {v : Value} (h : T.rd w (.sl E sz xs) [v]) :
    ∃ A cap, v = .slice A xs.length cap ∧ xs.length ≤ cap ∧ cap ≤ 9223372036854775807 ∧
      (∀ k x, xs[k]? = some x → ∃ b off cs, A = some ⟨b, off, none⟩ ∧ b < w.heap.size ∧ T.rd w x cs ∧ ∀ j u, cs[j]? = some u → w.cell? ⟨b, off + (k * sz + j), none⟩ = some u) := by
  simp only [T.rd] at h
  obtain ⟨v', es, hv, hw, h1, h2⟩ := h
  obtain rfl : v = v' := by simpa using hv
  obtain ⟨_, A, cap, rfl, h3, h4, h5⟩ := h1
  refine ⟨A, cap, rfl, h3, h4, fun k x hk => ?_⟩
  obtain ⟨b, off, rfl, hb, hc⟩ := h5 (by have := (List.getElem?_eq_some_iff.1 hk).1; omega)
  obtain ⟨cs, h6, h7⟩ := T.rds_at xs es k x hw h2 hk
  exact ⟨b, off, cs, rfl, hb, h6, fun j u hj => hc _ u (h7 j u hj)⟩
/-- Slices of numbers. -/
theorem T.rds_nums {w : World} : ∀ (xs : List Int) (es : List Value), T.rds w (xs.map T.num) es ↔ es = xs.map (Value.int .i64)
  | [], es => by simp [T.rds]
  | x :: xs, es => by
    simp only [List.map_cons, T.rds, T.rds_nums xs, T.rd]
    constructor
    · rintro ⟨c1, c2, rfl, rfl, rfl⟩; rfl
    · rintro rfl; exact ⟨_, _, rfl, rfl, rfl⟩
theorem T.ows_nums {w : World} : ∀ (xs : List Int) (F : List Nat) (es : List Value), T.ows w (xs.map T.num) F es ↔ F = [] ∧ es = xs.map (Value.int .i64)
  | [], F, es => by simp [T.ows]
  | x :: xs, F, es => by
    simp only [List.map_cons, T.ows, T.ows_nums xs, T.ow]
    constructor
    · rintro ⟨F1, F2, c1, c2, rfl, rfl, ⟨rfl, rfl⟩, rfl, rfl⟩; exact ⟨rfl, rfl⟩
    · rintro ⟨rfl, rfl⟩; exact ⟨[], [], _, _, rfl, rfl, ⟨rfl, rfl⟩, rfl, rfl⟩
/-- A slice of numbers as data. -/
abbrev T.ints (E : TypeId) (xs : List Int) : T := .sl E 1 (xs.map T.num)
theorem T.rd_ints {w : World} {E : TypeId} {xs : List Int} {v : Value} : T.rd w (T.ints E xs) [v] ↔ RdI w v xs := by
  simp only [T.ints, T.rd, T.rds_nums, List.length_map]
  constructor
  · rintro ⟨v', es, hv, _, h1, rfl⟩
    obtain rfl : v = v' := by simpa using hv
    exact h1
  · intro h
    exact ⟨v, _, rfl, by simp [T.wide], h, rfl⟩
theorem T.ow_ints {w : World} {E : TypeId} {xs : List Int} {v : Value} {F : List Nat} : T.ow w (T.ints E xs) F [v] ↔ OwI E w 0 v xs ∧ F = v.ownBlock.toList := by
  simp only [T.ints, T.ow, T.ows_nums, List.length_map]
  constructor
  · rintro ⟨v', es, G, hv, rfl, _, h1, rfl, rfl⟩
    obtain rfl : v = v' := by simpa using hv
    exact ⟨h1, by simp⟩
  · rintro ⟨h, rfl⟩
    exact ⟨v, _, [], rfl, by simp, by simp [T.wide], h, rfl, rfl⟩
theorem T.rd_below {w w' : World} {x : T} {cs : List Value} (h : T.rd w x cs) (hb : Below w.heap.size w w') : T.rd w' x cs := T.rd_keep hb.size hb.block x cs h
theorem T.ow_below {w w' : World} {x : T} {F : List Nat} {cs : List Value} {B : Nat} (h : T.ow w x F cs) (hb : Below B w w') (hF : ∀ b ∈ F, b < B) : T.ow w' x F cs := T.ow_keep x F cs (fun b hb' => hb.block b (hF b hb')) h
theorem T.ow_all {w w' : World} {x : T} {F : List Nat} {cs : List Value} (h : T.ow w x F cs) (hb : Below w.heap.size w w') : T.ow w' x F cs := T.ow_below h hb (T.ow_lt x F cs h)
theorem T.ows_all {w w' : World} {xs : List T} {F : List Nat} {cs : List Value} (h : T.ows w xs F cs) (hb : Below w.heap.size w w') : T.ows w' xs F cs := T.ows_keep xs F cs (fun b hb' => hb.block b (T.ows_lt xs F cs h b hb')) h
end Go.Proofs.YteiflbhcehajkaaGreatDoor
end
section
namespace Go.Proofs.YteiflbhcehajkaaGreatDoor
open Go.RowKit
section
variable {w w' : World} {n : Int} {s : ByteArray} {E : TypeId} {sz : Nat} {xs ys : List T} {cs : List Value} {F : List Nat}
theorem T.rds_nil : T.rds w [] cs ↔ cs = [] := by simp only [T.rds]
theorem T.rds_num : T.rds w (.num n :: xs) cs ↔ ∃ cs', cs = .int .i64 n :: cs' ∧ T.rds w xs cs' := by
  simp only [T.rds, T.rd]
  constructor
  · rintro ⟨c1, c2, rfl, rfl, h⟩; exact ⟨c2, rfl, h⟩
  · rintro ⟨c2, rfl, h⟩; exact ⟨_, c2, rfl, rfl, h⟩
theorem T.rds_str : T.rds w (.str s :: xs) cs ↔ ∃ cs', cs = .string s :: cs' ∧ T.rds w xs cs' := by
  simp only [T.rds, T.rd]
  constructor
  · rintro ⟨c1, c2, rfl, rfl, h⟩; exact ⟨c2, rfl, h⟩
  · rintro ⟨c2, rfl, h⟩; exact ⟨_, c2, rfl, rfl, h⟩
theorem T.rd_one {c : List Value} (h : T.rd w (.sl E sz ys) c) : ∃ v, c = [v] := by
  simp only [T.rd] at h
  obtain ⟨v, _, rfl, _⟩ := h
  exact ⟨v, rfl⟩
theorem T.rds_sl : T.rds w (.sl E sz ys :: xs) cs ↔ ∃ v cs', cs = v :: cs' ∧ T.rd w (.sl E sz ys) [v] ∧ T.rds w xs cs' := by
  constructor
  · intro h
    simp only [T.rds] at h
    obtain ⟨c1, c2, rfl, h1, h2⟩ := h
    obtain ⟨v, rfl⟩ := T.rd_one h1
    exact ⟨v, c2, rfl, h1, h2⟩
  · rintro ⟨v, c2, rfl, h1, h2⟩
    simp only [T.rds]
    exact ⟨[v], c2, rfl, h1, h2⟩
theorem T.ows_nil : T.ows w [] F cs ↔ F = [] ∧ cs = [] := by simp only [T.ows]
theorem T.ows_num : T.ows w (.num n :: xs) F cs ↔ ∃ cs', cs = .int .i64 n :: cs' ∧ T.ows w xs F cs' := by
  simp only [T.ows, T.ow]
  constructor
  · rintro ⟨F1, F2, c1, c2, rfl, rfl, ⟨rfl, rfl⟩, h⟩; exact ⟨c2, rfl, h⟩
  · rintro ⟨c2, rfl, h⟩; exact ⟨[], F, _, c2, rfl, rfl, ⟨rfl, rfl⟩, h⟩
theorem T.ows_str : T.ows w (.str s :: xs) F cs ↔ ∃ cs', cs = .string s :: cs' ∧ T.ows w xs F cs' := by
  simp only [T.ows, T.ow]
  constructor
  · rintro ⟨F1, F2, c1, c2, rfl, rfl, ⟨rfl, rfl⟩, h⟩; exact ⟨c2, rfl, h⟩
  · rintro ⟨c2, rfl, h⟩; exact ⟨[], F, _, c2, rfl, rfl, ⟨rfl, rfl⟩, h⟩
theorem T.ows_sl : T.ows w (.sl E sz ys :: xs) F cs ↔ ∃ v cs' F1 F2, F = F1 ++ F2 ∧ cs = v :: cs' ∧ T.ow w (.sl E sz ys) F1 [v] ∧ T.ows w xs F2 cs' := by
  constructor
  · intro h
    simp only [T.ows] at h
    obtain ⟨F1, F2, c1, c2, rfl, rfl, h1, h2⟩ := h
    obtain ⟨v, rfl⟩ := T.rd_one (T.ow_rd _ _ _ h1)
    exact ⟨v, c2, F1, F2, rfl, rfl, h1, h2⟩
  · rintro ⟨v, c2, F1, F2, rfl, rfl, h1, h2⟩
    simp only [T.ows]
    exact ⟨F1, F2, [v], c2, rfl, rfl, h1, h2⟩
theorem T.c_rn (h : T.rds w xs cs) : T.rds w (.num n :: xs) (.int .i64 n :: cs) := T.rds_num.2 ⟨_, rfl, h⟩
theorem T.c_rs (h : T.rds w xs cs) : T.rds w (.str s :: xs) (.string s :: cs) := T.rds_str.2 ⟨_, rfl, h⟩
theorem T.c_rl {v : Value} (h : T.rd w (.sl E sz ys) [v]) (h2 : T.rds w xs cs) : T.rds w (.sl E sz ys :: xs) (v :: cs) := T.rds_sl.2 ⟨_, _, rfl, h, h2⟩
theorem T.c_re : T.rds w [] [] := T.rds_nil.2 rfl
theorem T.c_on (h : T.ows w xs F cs) : T.ows w (.num n :: xs) F (.int .i64 n :: cs) := T.ows_num.2 ⟨_, rfl, h⟩
theorem T.c_os (h : T.ows w xs F cs) : T.ows w (.str s :: xs) F (.string s :: cs) := T.ows_str.2 ⟨_, rfl, h⟩
theorem T.c_ol {v : Value} {F1 : List Nat} (h : T.ow w (.sl E sz ys) F1 [v]) (h2 : T.ows w xs F cs) : T.ows w (.sl E sz ys :: xs) (F1 ++ F) (v :: cs) := T.ows_sl.2 ⟨_, _, _, _, rfl, rfl, h, h2⟩
theorem T.c_oe : T.ows w [] [] [] := T.ows_nil.2 ⟨rfl, rfl⟩
theorem T.ow_far {x : T} {g : Nat} (h : T.ow w x F cs) (hg : g ∉ F) (o : Nat) (u : Value) : T.ow (w.setCell ⟨g, o, none⟩ u) x F cs :=
  T.ow_keep x F cs (fun b hb => Below.heap_setCell w _ u b (fun e => hg (by rw [← show b = g from e]; exact hb))) h
end
theorem nodup_lo {F1 F2 : List Nat} {n : Nat} (h1 : F1.Nodup) (h2 : F2.Nodup) (a : ∀ b ∈ F1, b < n) (c : ∀ b ∈ F2, n ≤ b) : (F1 ++ F2).Nodup := by
  rw [List.nodup_append]
  exact ⟨h1, h2, fun x hx y hy e => by have := a x hx; have := c y hy; omega⟩
/-- One slice that lies in new blocks. -/
structure Nv (w w' : World) (x : T) (F : List Nat) (v : Value) : Prop where
  ow : T.ow w' x F [v]
  nodup : F.Nodup
  lo : ∀ b ∈ F, w.heap.size ≤ b
  below : Below w.heap.size w w'
theorem Nv.lt {w w' : World} {x : T} {F : List Nat} {v : Value} (h : Nv w w' x F v) : ∀ b ∈ F, b < w'.heap.size := T.ow_lt _ _ _ h.ow
theorem Nv.ints {w w' : World} {E : TypeId} {xs : List Int} {v : Value} (h : OwI E w' w.heap.size v xs) (hb : Below w.heap.size w w') : Nv w w' (T.ints E xs) v.ownBlock.toList v := by
  refine ⟨T.ow_ints.2 ⟨h.more (Nat.zero_le _), rfl⟩, ?_, ?_, hb⟩
  · cases v.ownBlock <;> simp
  · intro b hb; exact (h.lt b (by simpa using hb)).1
def I64 (n : Int) : Prop := -9223372036854775808 ≤ n ∧ n ≤ 9223372036854775807
def smL {α : Type} (p : α → Prop) (xs : List α) : Prop := xs.length ≤ 1048576 ∧ ∀ x ∈ xs, p x
theorem all_take {α : Type} {p : α → Prop} {xs : List α} {k : Nat} {x : α} (h : ∀ y ∈ xs.take k, p y) (hk : xs[k]? = some x) (hx : p x) : ∀ y ∈ xs.take (k + 1), p y := by
  intro y hy
  rw [take_snoc_of hk] at hy
  rcases List.mem_append.1 hy with hy | hy
  · exact h y hy
  · simp at hy; subst hy; exact hx
theorem all_full {α : Type} {p : α → Prop} {xs : List α} (h : ∀ y ∈ xs.take xs.length, p y) : ∀ y ∈ xs, p y := by rwa [List.take_length] at h
end Go.Proofs.YteiflbhcehajkaaGreatDoor
end
section
namespace Go.Proofs.YteiflbhcehajkaaGreatDoor
open Go.RowKit
structure GClip where
  fSource : Int
  fFrom : Int
  fLength : Int
  fAt : Int
  fGain : Int
deriving DecidableEq
def GClip.fs (x : GClip) : List T := [.num x.fSource, .num x.fFrom, .num x.fLength, .num x.fAt, .num x.fGain]
def GClip.t (x : GClip) : T := .st x.fs
theorem GClip.wide_t (x : GClip) : T.wide x.t = 5 := by simp [GClip.t, GClip.fs, T.wide, T.wides]
def GClip.good (x : GClip) : Prop := I64 x.fSource ∧ I64 x.fFrom ∧ I64 x.fLength ∧ I64 x.fAt ∧ I64 x.fGain
theorem GClip.rd_open {w : World} {x : GClip} {cs : List Value} (h : T.rds w x.fs cs) : cs = [.int .i64 x.fSource, .int .i64 x.fFrom, .int .i64 x.fLength, .int .i64 x.fAt, .int .i64 x.fGain] := by
  simp only [GClip.fs, T.rds_num, T.rds_str, T.rds_sl, T.rds_nil] at h
  obtain ⟨_, rfl, _, rfl, _, rfl, _, rfl, _, rfl, rfl⟩ := h
  exact rfl
theorem GClip.rd_mk {w : World} {x : GClip} : T.rds w x.fs [.int .i64 x.fSource, .int .i64 x.fFrom, .int .i64 x.fLength, .int .i64 x.fAt, .int .i64 x.fGain] := by
  unfold GClip.fs; exact T.c_rn (T.c_rn (T.c_rn (T.c_rn (T.c_rn (T.c_re)))))
theorem GClip.ow_mk {w : World} {x : GClip} : T.ows w x.fs [] [.int .i64 x.fSource, .int .i64 x.fFrom, .int .i64 x.fLength, .int .i64 x.fAt, .int .i64 x.fGain] := by
  unfold GClip.fs; exact T.c_on (T.c_on (T.c_on (T.c_on (T.c_on (T.c_oe)))))
structure GTrack where
  fClips : List GClip
deriving DecidableEq
def GTrack.fs (x : GTrack) : List T := [T.sl 141 5 (x.fClips.map GClip.t)]
def GTrack.t (x : GTrack) : T := .st x.fs
theorem GTrack.wide_t (x : GTrack) : T.wide x.t = 1 := by simp [GTrack.t, GTrack.fs, T.wide, T.wides]
def GTrack.good (x : GTrack) : Prop := (∀ y ∈ x.fClips, GClip.good y)
def GTrack.small (x : GTrack) : Prop := x.fClips.length ≤ 1048576
theorem GTrack.rd_open {w : World} {x : GTrack} {cs : List Value} (h : T.rds w x.fs cs) : ∃ v0, cs = [v0] ∧ T.rd w (T.sl 141 5 (x.fClips.map GClip.t)) [v0] := by
  simp only [GTrack.fs, T.rds_num, T.rds_str, T.rds_sl, T.rds_nil] at h
  obtain ⟨v0, _, rfl, h0, rfl⟩ := h
  exact ⟨v0, rfl, h0⟩
theorem GTrack.rd_mk {w : World} {x : GTrack} {v0 : Value} (h0 : T.rd w (T.sl 141 5 (x.fClips.map GClip.t)) [v0]) : T.rds w x.fs [v0] := by
  unfold GTrack.fs; exact T.c_rl h0 (T.c_re)
theorem GTrack.ow_mk {w : World} {x : GTrack} {v0 : Value} {F0 : List Nat} (h0 : T.ow w (T.sl 141 5 (x.fClips.map GClip.t)) F0 [v0]) : T.ows w x.fs (F0 ++ []) [v0] := by
  unfold GTrack.fs; exact T.c_ol h0 (T.c_oe)
structure GSend where
  fTo : Int
  fGain : Int
deriving DecidableEq
def GSend.fs (x : GSend) : List T := [.num x.fTo, .num x.fGain]
def GSend.t (x : GSend) : T := .st x.fs
theorem GSend.wide_t (x : GSend) : T.wide x.t = 2 := by simp [GSend.t, GSend.fs, T.wide, T.wides]
def GSend.good (x : GSend) : Prop := I64 x.fTo ∧ I64 x.fGain
theorem GSend.rd_open {w : World} {x : GSend} {cs : List Value} (h : T.rds w x.fs cs) : cs = [.int .i64 x.fTo, .int .i64 x.fGain] := by
  simp only [GSend.fs, T.rds_num, T.rds_str, T.rds_sl, T.rds_nil] at h
  obtain ⟨_, rfl, _, rfl, rfl⟩ := h
  exact rfl
theorem GSend.ow_mk {w : World} {x : GSend} : T.ows w x.fs [] [.int .i64 x.fTo, .int .i64 x.fGain] := by
  unfold GSend.fs; exact T.c_on (T.c_on (T.c_oe))
structure GStrip where
  fName : ByteArray
  fLatency : Int
  fSends : List GSend
deriving DecidableEq
def GStrip.fs (x : GStrip) : List T := [.str x.fName, .num x.fLatency, T.sl 203 2 (x.fSends.map GSend.t)]
def GStrip.t (x : GStrip) : T := .st x.fs
theorem GStrip.wide_t (x : GStrip) : T.wide x.t = 3 := by simp [GStrip.t, GStrip.fs, T.wide, T.wides]
def GStrip.good (x : GStrip) : Prop := x.fName.size ≤ 9223372036854775807 ∧ I64 x.fLatency ∧ (∀ y ∈ x.fSends, GSend.good y)
def GStrip.small (x : GStrip) : Prop := x.fName.size ≤ 1048576 ∧ x.fSends.length ≤ 1048576
theorem GStrip.rd_open {w : World} {x : GStrip} {cs : List Value} (h : T.rds w x.fs cs) : ∃ v2, cs = [.string x.fName, .int .i64 x.fLatency, v2] ∧ T.rd w (T.sl 203 2 (x.fSends.map GSend.t)) [v2] := by
  simp only [GStrip.fs, T.rds_num, T.rds_str, T.rds_sl, T.rds_nil] at h
  obtain ⟨_, rfl, _, rfl, v2, _, rfl, h2, rfl⟩ := h
  exact ⟨v2, rfl, h2⟩
theorem GStrip.ow_mk {w : World} {x : GStrip} {v2 : Value} {F2 : List Nat} (h2 : T.ow w (T.sl 203 2 (x.fSends.map GSend.t)) F2 [v2]) : T.ows w x.fs (F2 ++ []) [.string x.fName, .int .i64 x.fLatency, v2] := by
  unfold GStrip.fs; exact T.c_os (T.c_on (T.c_ol h2 (T.c_oe)))
structure GMixer where
  fStrips : List GStrip
deriving DecidableEq
def GMixer.fs (x : GMixer) : List T := [T.sl 153 3 (x.fStrips.map GStrip.t)]
def GMixer.good (x : GMixer) : Prop := (∀ y ∈ x.fStrips, GStrip.good y)
def GMixer.small (x : GMixer) : Prop := smL GStrip.small x.fStrips
theorem GMixer.rd_open {w : World} {x : GMixer} {cs : List Value} (h : T.rds w x.fs cs) : ∃ v0, cs = [v0] ∧ T.rd w (T.sl 153 3 (x.fStrips.map GStrip.t)) [v0] := by
  simp only [GMixer.fs, T.rds_num, T.rds_str, T.rds_sl, T.rds_nil] at h
  obtain ⟨v0, _, rfl, h0, rfl⟩ := h
  exact ⟨v0, rfl, h0⟩
theorem GMixer.rd_mk {w : World} {x : GMixer} {v0 : Value} (h0 : T.rd w (T.sl 153 3 (x.fStrips.map GStrip.t)) [v0]) : T.rds w x.fs [v0] := by
  unfold GMixer.fs; exact T.c_rl h0 (T.c_re)
structure GNode where
  fKind : Int
  fA : Int
  fB : Int
  fFrom : List Int
deriving DecidableEq
def GNode.fs (x : GNode) : List T := [.num x.fKind, .num x.fA, .num x.fB, T.ints 2 x.fFrom]
def GNode.t (x : GNode) : T := .st x.fs
theorem GNode.wide_t (x : GNode) : T.wide x.t = 4 := by simp [GNode.t, GNode.fs, T.wide, T.wides]
def GNode.good (x : GNode) : Prop := I64 x.fKind ∧ I64 x.fA ∧ I64 x.fB ∧ (∀ y ∈ x.fFrom, I64 y)
def GNode.small (x : GNode) : Prop := x.fFrom.length ≤ 1048576
theorem GNode.rd_open {w : World} {x : GNode} {cs : List Value} (h : T.rds w x.fs cs) : ∃ v3, cs = [.int .i64 x.fKind, .int .i64 x.fA, .int .i64 x.fB, v3] ∧ T.rd w (T.ints 2 x.fFrom) [v3] := by
  simp only [GNode.fs, T.rds_num, T.rds_str, T.rds_sl, T.rds_nil] at h
  obtain ⟨_, rfl, _, rfl, _, rfl, v3, _, rfl, h3, rfl⟩ := h
  exact ⟨v3, rfl, h3⟩
theorem GNode.rd_mk {w : World} {x : GNode} {v3 : Value} (h3 : T.rd w (T.ints 2 x.fFrom) [v3]) : T.rds w x.fs [.int .i64 x.fKind, .int .i64 x.fA, .int .i64 x.fB, v3] := by
  unfold GNode.fs; exact T.c_rn (T.c_rn (T.c_rn (T.c_rl h3 (T.c_re))))
theorem GNode.ow_mk {w : World} {x : GNode} {v3 : Value} {F3 : List Nat} (h3 : T.ow w (T.ints 2 x.fFrom) F3 [v3]) : T.ows w x.fs (F3 ++ []) [.int .i64 x.fKind, .int .i64 x.fA, .int .i64 x.fB, v3] := by
  unfold GNode.fs; exact T.c_on (T.c_on (T.c_on (T.c_ol h3 (T.c_oe))))
structure GPatch where
  fInputs : Int
  fTables : List (List Int)
  fNodes : List GNode
  fOutputs : List Int
deriving DecidableEq
def GPatch.fs (x : GPatch) : List T := [.num x.fInputs, T.sl 24 1 (x.fTables.map (T.ints 2)), T.sl 207 4 (x.fNodes.map GNode.t), T.ints 2 x.fOutputs]
def GPatch.t (x : GPatch) : T := .st x.fs
theorem GPatch.wide_t (x : GPatch) : T.wide x.t = 4 := by simp [GPatch.t, GPatch.fs, T.wide, T.wides]
def GPatch.good (x : GPatch) : Prop := I64 x.fInputs ∧ (∀ l ∈ x.fTables, ∀ y ∈ l, I64 y) ∧ (∀ y ∈ x.fNodes, GNode.good y) ∧ (∀ y ∈ x.fOutputs, I64 y)
def GPatch.small (x : GPatch) : Prop := smL (fun l : List Int => l.length ≤ 1048576) x.fTables ∧ smL GNode.small x.fNodes ∧ x.fOutputs.length ≤ 1048576
theorem GPatch.rd_open {w : World} {x : GPatch} {cs : List Value} (h : T.rds w x.fs cs) : ∃ v1 v2 v3, cs = [.int .i64 x.fInputs, v1, v2, v3] ∧ T.rd w (T.sl 24 1 (x.fTables.map (T.ints 2))) [v1] ∧ T.rd w (T.sl 207 4 (x.fNodes.map GNode.t)) [v2] ∧ T.rd w (T.ints 2 x.fOutputs) [v3] := by
  simp only [GPatch.fs, T.rds_num, T.rds_str, T.rds_sl, T.rds_nil] at h
  obtain ⟨_, rfl, v1, _, rfl, h1, v2, _, rfl, h2, v3, _, rfl, h3, rfl⟩ := h
  exact ⟨v1, v2, v3, rfl, h1, h2, h3⟩
theorem GPatch.rd_mk {w : World} {x : GPatch} {v1 : Value} {v2 : Value} {v3 : Value} (h1 : T.rd w (T.sl 24 1 (x.fTables.map (T.ints 2))) [v1]) (h2 : T.rd w (T.sl 207 4 (x.fNodes.map GNode.t)) [v2]) (h3 : T.rd w (T.ints 2 x.fOutputs) [v3]) : T.rds w x.fs [.int .i64 x.fInputs, v1, v2, v3] := by
  unfold GPatch.fs; exact T.c_rn (T.c_rl h1 (T.c_rl h2 (T.c_rl h3 (T.c_re))))
theorem GPatch.ow_mk {w : World} {x : GPatch} {v1 : Value} {F1 : List Nat} {v2 : Value} {F2 : List Nat} {v3 : Value} {F3 : List Nat} (h1 : T.ow w (T.sl 24 1 (x.fTables.map (T.ints 2))) F1 [v1]) (h2 : T.ow w (T.sl 207 4 (x.fNodes.map GNode.t)) F2 [v2]) (h3 : T.ow w (T.ints 2 x.fOutputs) F3 [v3]) : T.ows w x.fs (F1 ++ (F2 ++ (F3 ++ []))) [.int .i64 x.fInputs, v1, v2, v3] := by
  unfold GPatch.fs; exact T.c_on (T.c_ol h1 (T.c_ol h2 (T.c_ol h3 (T.c_oe))))
structure GSession where
  fLength : Int
  fSources : List (List Int)
  fTracks : List GTrack
  fFeeds : List Int
  fEffects : List GPatch
  fMixer : GMixer
deriving DecidableEq
def GSession.fs (x : GSession) : List T := [.num x.fLength, T.sl 24 1 (x.fSources.map (T.ints 2)), T.sl 114 1 (x.fTracks.map GTrack.t), T.ints 2 x.fFeeds, T.sl 136 4 (x.fEffects.map GPatch.t), T.sl 153 3 (x.fMixer.fStrips.map GStrip.t)]
def GSession.good (x : GSession) : Prop := I64 x.fLength ∧ (∀ l ∈ x.fSources, ∀ y ∈ l, I64 y) ∧ (∀ y ∈ x.fTracks, GTrack.good y) ∧ (∀ y ∈ x.fFeeds, I64 y) ∧ (∀ y ∈ x.fEffects, GPatch.good y) ∧ (∀ y ∈ x.fMixer.fStrips, GStrip.good y)
def GSession.small (x : GSession) : Prop := smL (fun l : List Int => l.length ≤ 1048576) x.fSources ∧ smL GTrack.small x.fTracks ∧ x.fFeeds.length ≤ 1048576 ∧ smL GPatch.small x.fEffects ∧ smL GStrip.small x.fMixer.fStrips
theorem GSession.rd_open {w : World} {x : GSession} {cs : List Value} (h : T.rds w x.fs cs) : ∃ v1 v2 v3 v4 v5, cs = [.int .i64 x.fLength, v1, v2, v3, v4, v5] ∧ T.rd w (T.sl 24 1 (x.fSources.map (T.ints 2))) [v1] ∧ T.rd w (T.sl 114 1 (x.fTracks.map GTrack.t)) [v2] ∧ T.rd w (T.ints 2 x.fFeeds) [v3] ∧ T.rd w (T.sl 136 4 (x.fEffects.map GPatch.t)) [v4] ∧ T.rd w (T.sl 153 3 (x.fMixer.fStrips.map GStrip.t)) [v5] := by
  simp only [GSession.fs, T.rds_num, T.rds_str, T.rds_sl, T.rds_nil] at h
  obtain ⟨_, rfl, v1, _, rfl, h1, v2, _, rfl, h2, v3, _, rfl, h3, v4, _, rfl, h4, v5, _, rfl, h5, rfl⟩ := h
  exact ⟨v1, v2, v3, v4, v5, rfl, h1, h2, h3, h4, h5⟩
theorem GSession.rd_mk {w : World} {x : GSession} {v1 : Value} {v2 : Value} {v3 : Value} {v4 : Value} {v5 : Value} (h1 : T.rd w (T.sl 24 1 (x.fSources.map (T.ints 2))) [v1]) (h2 : T.rd w (T.sl 114 1 (x.fTracks.map GTrack.t)) [v2]) (h3 : T.rd w (T.ints 2 x.fFeeds) [v3]) (h4 : T.rd w (T.sl 136 4 (x.fEffects.map GPatch.t)) [v4]) (h5 : T.rd w (T.sl 153 3 (x.fMixer.fStrips.map GStrip.t)) [v5]) : T.rds w x.fs [.int .i64 x.fLength, v1, v2, v3, v4, v5] := by
  unfold GSession.fs; exact T.c_rn (T.c_rl h1 (T.c_rl h2 (T.c_rl h3 (T.c_rl h4 (T.c_rl h5 (T.c_re))))))
end Go.Proofs.YteiflbhcehajkaaGreatDoor
end
section
namespace Go.Proofs.YteiflbhcehajkaaGreatDoor
open Go.RowKit Go.ChangeShapes Go.WideShapes Go.Deep
end Go.Proofs.YteiflbhcehajkaaGreatDoor
end
section
namespace Go.Proofs.YteiflbhcehajkaaGreatDoor
open Go.RowKit Go.ChangeShapes Go.WideShapes Go.Deep
theorem rds_range {w : World} (tr : Nat → T) (g : Nat → List Value) : ∀ (l : List Nat), (∀ i ∈ l, T.rd w (tr i) (g i)) → T.rds w (l.map tr) (l.flatMap g)
  | [], _ => T.c_re
  | i :: l, h => by
    simp only [List.map_cons, List.flatMap_cons, T.rds]
    exact ⟨_, _, rfl, h i (by simp), rds_range tr g l (fun j hj => h j (by simp [hj]))⟩
theorem rdT_open {α H : Type} {enc : TypeId × Value → H} {P : Program} {w : World} {base : Nat} {spare : Nat → Bool} {held : Bool} {t e : TypeId} {fuel : Nat} {cs : List Value} {x : DataW H × List MemPlace} (E : TypeId)
    (tr : α → T) {sz : Nat} (good : α → Prop) (hw : ∀ x, T.wide (tr x) = sz) (hs : 0 < sz) (dflt : α) (ht : P.underlying t = some (.slice e)) (ce : P.cellsOf e = sz)
    (hel : ∀ n cs' y, DataW.trod enc P w base spare held n e cs' = some y → ∃ z, T.rd w (tr z) cs' ∧ good z)
    (h : DataW.trod enc P w base spare held fuel t cs = some x) : ∃ (v : Value) (xs : List α), cs = [v] ∧ T.rd w (.sl E sz (xs.map tr)) [v] ∧ ∀ z ∈ xs, good z := by
  rcases open_slice ht h with ⟨rfl, _⟩ | ⟨a, len, cap, m, n, D, Pl, rfl, hb, hl, hm, hmm, _, hx⟩
  · refine ⟨_, [], rfl, ?_, by simp⟩
    simp only [T.rd, List.map_nil]
    exact ⟨_, [], rfl, by simp, Rd.nil_ w sz, by simp [T.rds]⟩
  · have hlm : len ≤ m := by rw [hmm]; split <;> omega
    have each : ∀ i, i < len → ∃ z : α × List Value, z.2.length = sz ∧ T.rd w (tr z.1) z.2 ∧ good z.1 ∧ ∀ j, j < sz → w.cell? (a.add (i * sz + j)) = z.2[j]? := by
      intro i hi
      obtain ⟨cs', h1, h2⟩ := hx i (by omega)
      rw [ce] at h1
      obtain ⟨_, hlen, hcell⟩ := World.cells?_some h1
      obtain ⟨z, hz, hg⟩ := hel _ _ _ h2
      refine ⟨(z, cs'), hlen, hz, hg, fun j hj => ?_⟩
      rw [← hcell j hj, add_add]
    obtain ⟨f, hf⟩ := @choose_lt (α × List Value) ⟨(dflt, [])⟩ len _ each
    let g : Nat → List Value := fun i => if i < len then (f i).2 else List.replicate sz (.bool true)
    have hgl : ∀ i, (g i).length = sz := fun i => by
      show (if i < len then (f i).2 else _).length = sz
      split
      · next hi => exact (hf i hi).1
      · simp
    have hgi : ∀ i, i < len → g i = (f i).2 := fun i hi => if_pos hi
    refine ⟨_, (List.range len).map fun i => (f i).1, rfl, ?_, ?_⟩
    · simp only [T.rd]
      refine ⟨_, (List.range len).flatMap g, rfl, ?_, ?_, ?_⟩
      · intro y hy
        obtain ⟨z, _, rfl⟩ := List.mem_map.1 hy
        exact hw z
      · have hlen : (((List.range len).map fun i => (f i).1).map tr).length = len := by simp
        rw [hlen]
        refine ⟨by rw [flat_len hgl]; simp, some a, cap, rfl, hl, by unfold maxLen at hm; omega, fun hn => ?_⟩
        have hc0 := (hf 0 hn).2.2.2 0 hs
        rw [List.getElem?_eq_getElem (by rw [(hf 0 hn).1]; exact hs)] at hc0
        have hz : a.add (0 * sz + 0) = a := by simp [Addr.add]
        rw [hz] at hc0
        have hsp : a.spot = none := by
          unfold World.cell? at hc0
          split at hc0
          · split at hc0
            · cases hc0
            · rename_i h'; simpa using h'
          · cases hc0
        obtain ⟨b, off, sp⟩ := a
        simp only at hsp
        subst hsp
        refine ⟨b, off, rfl, World.block_lt_of_cell? w _ hc0, fun j u hu => ?_⟩
        have hj : j < len * sz := by have := (List.getElem?_eq_some_iff.1 hu).1; rw [flat_len hgl] at this; simpa using this
        have hk : j / sz < len := (Nat.div_lt_iff_lt_mul hs).2 hj
        have hjm : j % sz < sz := Nat.mod_lt _ hs
        have ej : j / sz * sz + j % sz = j := by have := Nat.div_add_mod j sz; rw [Nat.mul_comm] at this; exact this
        have h1 := (hf (j / sz) hk).2.2.2 (j % sz) hjm
        have hin : (g (j / sz))[j % sz]? = some ((g (j / sz))[j % sz]'(by rw [hgl]; exact hjm)) := List.getElem?_eq_getElem _
        have h3 := flat_at hgl (xs := List.range len) (k := j / sz) (j := j % sz) (x := j / sz) (by simp [hk]) hin
        rw [ej, hu] at h3
        rw [ej, ← hgi _ hk, hin, ← h3] at h1
        rw [show (⟨b, off + j, none⟩ : Addr) = (⟨b, off, none⟩ : Addr).add j by unfold Addr.add; split <;> simp_all]
        exact h1
      · have := rds_range (w := w) (fun i => tr (f i).1) g (List.range len) (fun i hi => by
          have hi' := List.mem_range.1 hi
          rw [hgi i hi']; exact (hf i hi').2.1)
        rw [List.map_map]
        exact this
    · intro z hz
      simp only [List.mem_map, List.mem_range] at hz
      obtain ⟨i, hi, rfl⟩ := hz
      exact (hf i hi).2.2.1
end Go.Proofs.YteiflbhcehajkaaGreatDoor
end
