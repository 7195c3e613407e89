/- Laws for data that a call lays anew: blocks in order, elements stored one by one. No program is named here. -/
import Derived.Test.YtfifcnojkjjnkaaGreatNf
namespace Go.Proofs.YtfifcnojkjjnkaaGreat
open Go.RowKit
/-- Lists of blocks, one behind the other, from lo on and below hi. -/
def Sg : Nat → Nat → List (List Nat) → Prop
  | lo, hi, [] => lo ≤ hi
  | lo, hi, F :: r => ∃ m, lo ≤ m ∧ F.Nodup ∧ (∀ b ∈ F, lo ≤ b ∧ b < m) ∧ Sg m hi r
theorem Sg.le : ∀ {lo hi : Nat} {xs : List (List Nat)}, Sg lo hi xs → lo ≤ hi
  | _, _, [], h => h
  | _, _, _ :: _, ⟨_, h1, _, _, h2⟩ => Nat.le_trans h1 (Sg.le h2)
theorem Sg.app : ∀ {a b c : Nat} {xs ys : List (List Nat)}, Sg a b xs → Sg b c ys → Sg a c (xs ++ ys)
  | a, b, c, [], [], h, k => Nat.le_trans h k
  | a, b, c, [], F :: r, h, ⟨m, h1, h2, h3, h4⟩ => ⟨m, Nat.le_trans h h1, h2, fun x hx => ⟨Nat.le_trans h (h3 x hx).1, (h3 x hx).2⟩, h4⟩
  | a, b, c, F :: r, ys, ⟨m, h1, h2, h3, h4⟩, k => ⟨m, h1, h2, h3, Sg.app h4 k⟩
theorem Sg.more : ∀ {a a' b : Nat} {xs : List (List Nat)}, Sg a b xs → a' ≤ a → Sg a' b xs
  | _, _, _, [], h, k => Nat.le_trans k h
  | _, _, _, _ :: _, ⟨m, h1, h2, h3, h4⟩, k => ⟨m, Nat.le_trans k h1, h2, fun x hx => ⟨Nat.le_trans k (h3 x hx).1, (h3 x hx).2⟩, h4⟩
theorem Sg.all : ∀ {lo hi : Nat} {xs : List (List Nat)}, Sg lo hi xs → xs.flatten.Nodup ∧ ∀ b ∈ xs.flatten, lo ≤ b ∧ b < hi
  | _, _, [], _ => by simp
  | lo, hi, F :: r, ⟨m, h1, h2, h3, h4⟩ => by
    obtain ⟨k1, k2⟩ := Sg.all h4
    have hm := Sg.le h4
    refine ⟨?_, ?_⟩
    · rw [List.flatten_cons]
      exact nodup_lo h2 k1 (fun b hb => (h3 b hb).2) (fun b hb => (k2 b hb).1)
    · intro b hb
      rw [List.flatten_cons] at hb
      rcases List.mem_append.1 hb with hb | hb
      · have := h3 b hb; exact ⟨this.1, by omega⟩
      · have := k2 b hb; exact ⟨by omega, this.2⟩
theorem Nv.sg {w w' : World} {x : T} {F : List Nat} {v : Value} (h : Nv w w' x F v) : Sg w.heap.size w'.heap.size [F] :=
  ⟨w'.heap.size, h.below.size, h.nodup, fun b hb => ⟨h.lo b hb, h.lt b hb⟩, Nat.le_refl _⟩
theorem nf {F : List Nat} {lo g : Nat} (h : ∀ b ∈ F, lo ≤ b) (hg : g < lo) : g ∉ F := fun hm => by have := h g hm; omega
theorem Bk.born1' (w : World) (o : Obj) (t : TypeId) (cs : Array Value) : Bk ((w.alloc o).alloc (.cells cs t)) (w.heap.size + 1) t cs := by
  have := Bk.born (w.alloc o) t cs
  simpa using this
theorem Bk.born2 (w : World) (o o2 : Obj) (t : TypeId) (cs : Array Value) : Bk (((w.alloc o).alloc o2).alloc (.cells cs t)) (w.heap.size + 2) t cs := by
  have := Bk.born ((w.alloc o).alloc o2) t cs
  simpa using this
/-- Cells stored one behind the other. -/
def setsW (w : World) (g : Nat) : Nat → List Value → World
  | _, [] => w
  | p, u :: us => setsW (w.setCell ⟨g, p, none⟩ u) g (p + 1) us
def setsL (es : List Value) : Nat → List Value → List Value
  | _, [] => es
  | p, u :: us => setsL (es.set p u) (p + 1) us
theorem grown_set1 (w : World) (g o : Nat) (u : Value) : w.grownBy (w.setCell ⟨g, o, none⟩ u) (some g) :=
  ⟨rfl, rfl, rfl, by simp [World.setCell], fun k _ hne => Below.heap_setCell w _ u k (fun e => hne (by rw [e]))⟩
theorem own_sets {B E sz n g cap : Nat} : ∀ (us : List Value) (w : World) (p : Nat) (es : List Value), w.ownsRow B E sz (.slice (some ⟨g, 0, none⟩) n cap) n es →
    (setsW w g p us).ownsRow B E sz (.slice (some ⟨g, 0, none⟩) n cap) n (setsL es p us) ∧ w.grownBy (setsW w g p us) (some g)
  | [], w, p, es, h => ⟨h, World.grownBy.refl _ _⟩
  | u :: us, w, p, es, h => by
    obtain ⟨h1, h2⟩ := own_sets us (w.setCell ⟨g, p, none⟩ u) (p + 1) (es.set p u) (World.ownsRow.stored h p u).1
    exact ⟨h1, (grown_set1 w g p u).trans h2⟩
theorem setsL_mid : ∀ (us zs c1 c2 : List Value), us.length = zs.length → setsL (c1 ++ (zs ++ c2)) c1.length us = c1 ++ (us ++ c2)
  | [], [], c1, c2, _ => rfl
  | u :: us, z :: zs, c1, c2, h => by
    have e : (c1 ++ ((z :: zs) ++ c2)).set c1.length u = (c1 ++ [u]) ++ (zs ++ c2) := by
      rw [List.set_append_right _ _ (Nat.le_refl _), Nat.sub_self]
      simp
    have := setsL_mid us zs (c1 ++ [u]) c2 (by simpa using h)
    simp only [setsL]
    rw [e]
    rw [List.length_append, List.length_singleton] at this
    rw [this]
    simp
theorem cons_pos {α : Type} {l : List α} (h : 0 < l.length) : ∃ a t, l = a :: t := by cases l with | nil => simp at h | cons a t => exact ⟨a, t, rfl⟩
theorem cut_len {α : Type} {l : List α} {n : Nat} (h : n ≤ l.length) : ∃ a b, l = a ++ b ∧ a.length = n := ⟨l.take n, l.drop n, (List.take_append_drop n l).symm, by rw [List.length_take]; omega⟩
theorem len1 {α : Type} {l : List α} (h : l.length = 1) : ∃ a, l = [a] := by match l, h with | [a], _ => exact ⟨a, rfl⟩
theorem len2 {α : Type} {l : List α} (h : l.length = 2) : ∃ a b, l = [a, b] := by match l, h with | [a, b], _ => exact ⟨a, b, rfl⟩
theorem len3 {α : Type} {l : List α} (h : l.length = 3) : ∃ a b c, l = [a, b, c] := by match l, h with | [a, b, c], _ => exact ⟨a, b, c, rfl⟩
theorem len4 {α : Type} {l : List α} (h : l.length = 4) : ∃ a b c d, l = [a, b, c, d] := by match l, h with | [a, b, c, d], _ => exact ⟨a, b, c, d, rfl⟩
theorem len5 {α : Type} {l : List α} (h : l.length = 5) : ∃ a b c d e, l = [a, b, c, d, e] := by match l, h with | [a, b, c, d, e], _ => exact ⟨a, b, c, d, e, rfl⟩
theorem len7 {α : Type} {l : List α} (h : l.length = 7) : ∃ a b c d e f g, l = [a, b, c, d, e, f, g] := by match l, h with | [a, b, c, d, e, f, g], _ => exact ⟨a, b, c, d, e, f, g, rfl⟩
theorem own_cell {w : World} {B E sz n g cap : Nat} {c1 zs c2 : List Value} (h : w.ownsRow B E sz (.slice (some ⟨g, 0, none⟩) n cap) n (c1 ++ (zs ++ c2))) {j : Nat} {u : Value} (hj : zs[j]? = some u) : w.cell? ⟨g, c1.length + j, none⟩ = some u := by
  have hl := (List.getElem?_eq_some_iff.1 hj).1
  rw [World.ownsRow.cellAt h (c1.length + j) (by rw [← h.1]; simp; omega)]
  rw [List.getElem?_append_right (by omega), Nat.add_sub_cancel_left, List.getElem?_append_left hl]
  exact hj
theorem own_free {w : World} {B E sz n g cap : Nat} {es : List Value} (h : w.ownsRow B E sz (.slice (some ⟨g, 0, none⟩) n cap) n es) (j : Nat) : w.frozen? ⟨g, j, none⟩ = false := World.ownsRow.frozenAt h j
theorem T.ows_snoc {w : World} {xs : List T} {x : T} {F F' : List Nat} {c1 c2 : List Value} (h : T.ows w xs F c1) (k : T.ow w x F' c2) : T.ows w (xs ++ [x]) (F ++ F') (c1 ++ c2) :=
  (T.ows_app xs [x] _ _).2 ⟨F, F', c1, c2, rfl, rfl, h, by simp only [T.ows]; exact ⟨F', [], c2, [], by simp, by simp, k, rfl, rfl⟩⟩
theorem T.ows_grown {w w' : World} {xs : List T} {F : List Nat} {cs : List Value} {g : Nat} (h : T.ows w xs F cs) (hg : w.grownBy w' (some g)) (hn : g ∉ F) : T.ows w' xs F cs :=
  T.ows_keep xs F cs (fun b hb => hg.block b (T.ows_lt xs F cs h b hb) (fun e => hn (by injection e with e; rw [← e]; exact hb))) h
theorem T.ow_grown {w w' : World} {x : T} {F : List Nat} {cs : List Value} {g : Nat} (h : T.ow w x F cs) (hg : w.grownBy w' (some g)) (hn : g ∉ F) : T.ow w' x F cs :=
  T.ow_keep x F cs (fun b hb => hg.block b (T.ow_lt x F cs h b hb) (fun e => hn (by injection e with e; rw [← e]; exact hb))) h
/-- The row being filled: the first k elements are laid. -/
structure Fil (w0 wr : World) (E sz n : Nat) (xs : List T) (G : List Nat) (c1 c2 : List Value) : Prop where
  own : wr.ownsRow 0 E sz (.slice (some ⟨w0.heap.size, 0, none⟩) n n) n (c1 ++ c2)
  ows : T.ows wr xs G c1
  nodup : G.Nodup
  lo : ∀ b ∈ G, w0.heap.size + 1 ≤ b
  below : Below w0.heap.size w0 wr
theorem Fil.len {w0 wr : World} {E sz n : Nat} {xs : List T} {G : List Nat} {c1 c2 : List Value} (h : Fil w0 wr E sz n xs G c1 c2) (hw : ∀ x ∈ xs, T.wide x = sz) : c1.length = xs.length * sz := by
  rw [T.ows_len h.ows, T.wides_mul xs hw]
/-- A call that lays memory leaves the row as it is. -/
theorem Fil.call {w0 wr w1 : World} {E sz n : Nat} {xs : List T} {G : List Nat} {c1 c2 : List Value} (h : Fil w0 wr E sz n xs G c1 c2) (hb : Below wr.heap.size wr w1) : Fil w0 w1 E sz n xs G c1 c2 :=
  ⟨own_all h.own hb, T.ows_all h.ows hb, h.nodup, h.lo, bthen h.below h.below.size hb⟩
/-- One element more. -/
theorem Fil.step {w0 wr w1 : World} {E sz n : Nat} {xs : List T} {G F : List Nat} {c1 zs c2 us : List Value} {x : T} (h : Fil w0 w1 E sz n xs G c1 (zs ++ c2)) (hl : us.length = zs.length)
    (hs : w0.heap.size + 1 ≤ wr.heap.size) (hx : T.ow w1 x F us) (hF : F.Nodup) (hF2 : ∀ b ∈ F, wr.heap.size ≤ b) (hG : ∀ b ∈ G, b < wr.heap.size) :
    Fil w0 (setsW w1 w0.heap.size c1.length us) E sz n (xs ++ [x]) (G ++ F) (c1 ++ us) c2 := by
  obtain ⟨h1, h2⟩ := own_sets us w1 c1.length _ h.own
  rw [setsL_mid us zs c1 c2 hl, ← List.append_assoc] at h1
  have hgG : w0.heap.size ∉ G := nf h.lo (by omega)
  have hgF : w0.heap.size ∉ F := nf hF2 (by omega)
  refine ⟨h1, T.ows_snoc (T.ows_grown h.ows h2 hgG) (T.ow_grown hx h2 hgF), nodup_lo h.nodup hF hG hF2, ?_, h.below.grown h2 h.below.size (fun k hk => by injection hk with hk; omega)⟩
  intro b hb
  rcases List.mem_append.1 hb with hb | hb
  · exact h.lo b hb
  · have := hF2 b hb; omega
theorem Fil.done {w0 wr : World} {E sz n : Nat} {xs : List T} {G : List Nat} {c1 : List Value} (h : Fil w0 wr E sz n xs G c1 []) (hw : ∀ x ∈ xs, T.wide x = sz) (hn : xs.length = n) :
    Nv w0 wr (.sl E sz xs) (w0.heap.size :: G) (.slice (some ⟨w0.heap.size, 0, none⟩) n n) := by
  have ho := h.own
  rw [List.append_nil] at ho
  refine ⟨?_, ?_, ?_, h.below⟩
  · simp only [T.ow]
    exact ⟨_, c1, G, rfl, rfl, hw, by rw [hn]; exact ho, h.ows⟩
  · rw [List.nodup_cons]; exact ⟨nf h.lo (by omega), h.nodup⟩
  · intro b hb
    rcases List.mem_cons.1 hb with rfl | hb
    · exact Nat.le_refl _
    · have := h.lo b hb; omega
theorem Fil.lt {w0 wr : World} {E sz n : Nat} {xs : List T} {G : List Nat} {c1 c2 : List Value} (h : Fil w0 wr E sz n xs G c1 c2) : ∀ b ∈ G, b < wr.heap.size := T.ows_lt _ _ _ h.ows
theorem Fil.up {w0 wr : World} {E sz n : Nat} {xs : List T} {G : List Nat} {c1 c2 : List Value} (h : Fil w0 wr E sz n xs G c1 c2) : w0.heap.size + 1 ≤ wr.heap.size := by
  have := (h.own.lt w0.heap.size rfl).2; omega
theorem Fil.born {w0 w1 : World} {E sz n : Nat} {es : List Value} (h : w1.ownsRow w0.heap.size E sz (.slice (some ⟨w0.heap.size, 0, none⟩) n n) n es) (hg : w0.grownBy w1 none) : Fil w0 w1 E sz n [] [] [] es :=
  ⟨own_more h (Nat.zero_le _), T.c_oe, by simp, by simp, (Below.refl _ _).grown hg (Nat.le_refl _) (by simp)⟩
theorem Fil.rest {w0 wr : World} {E sz n : Nat} {xs : List T} {G : List Nat} {c1 c2 : List Value} (h : Fil w0 wr E sz n xs G c1 c2) (hw : ∀ x ∈ xs, T.wide x = sz) : c2.length = n * sz - xs.length * sz := by
  have h1 := h.own.1
  have h2 := h.len hw
  rw [List.length_append] at h1
  omega
theorem T.rd_slice {w : World} {E : TypeId} {sz : Nat} {xs : List T} {u : Value} (h : T.rd w (.sl E sz xs) [u]) : ∃ A l c, u = .slice A l c := by
  obtain ⟨A, cap, rfl, _⟩ := T.rd_open h
  exact ⟨_, _, _, rfl⟩
theorem T.ow_slice {w : World} {E : TypeId} {sz : Nat} {xs : List T} {F : List Nat} {u : Value} (h : T.ow w (.sl E sz xs) F [u]) : ∃ A l c, u = .slice A l c := T.rd_slice (T.ow_rd _ _ _ h)
end Go.Proofs.YtfifcnojkjjnkaaGreat
