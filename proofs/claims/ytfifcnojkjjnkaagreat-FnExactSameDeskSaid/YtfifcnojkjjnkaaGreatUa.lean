/- Words for memory: slices of strings, slices of changes. No program is named here. -/
import Derived.Test.YtfifcnojkjjnkaaGreatLk
import Derived.Test.YtfifcnojkjjnkaaGreatTa
namespace Go.Proofs.YtfifcnojkjjnkaaGreat
open Go.RowKit
section
variable {α : Type} {enc : α → List Value} {sz : Nat}
theorem flat_len (h : ∀ x, (enc x).length = sz) (xs : List α) : (xs.flatMap enc).length = xs.length * sz := by
  induction xs with
  | nil => simp
  | cons x t ih => simp only [List.flatMap_cons, List.length_append, List.length_cons, ih, h]; rw [Nat.add_mul]; omega
theorem flat_at (h : ∀ x, (enc x).length = sz) {xs : List α} {k j : Nat} {x : α} {u : Value} (hk : xs[k]? = some x) (hj : (enc x)[j]? = some u) : (xs.flatMap enc)[k * sz + j]? = some u := by
  induction xs generalizing k with
  | nil => simp at hk
  | cons y t ih =>
    rw [List.flatMap_cons]
    cases k with
    | zero =>
      simp at hk; subst hk
      have := (List.getElem?_eq_some_iff.1 hj).1
      rw [List.getElem?_append_left (by omega)]
      simpa using hj
    | succ k =>
      have e : (k + 1) * sz + j = (enc y).length + (k * sz + j) := by rw [h, Nat.add_mul]; omega
      rw [e, List.getElem?_append_right (by omega), Nat.add_sub_cancel_left]
      exact ih (by simpa using hk)
end

/-- A slice whose elements take sz cells each, and which reads as xs. -/
def RdG {α : Type} (enc : α → List Value) (sz : Nat) (w : World) (v : Value) (xs : List α) : Prop := (∀ x, (enc x).length = sz) ∧ Rd w v sz xs.length (xs.flatMap enc)
def OwG {α : Type} (enc : α → List Value) (sz : Nat) (E : TypeId) (w : World) (B : Nat) (v : Value) (xs : List α) : Prop := (∀ x, (enc x).length = sz) ∧ w.ownsRow B E sz v xs.length (xs.flatMap enc)
section
variable {α : Type} {enc : α → List Value} {sz : Nat} {w w' : World} {v : Value} {xs : List α} {E : TypeId} {B : Nat}
theorem OwG.rd (h : OwG enc sz E w B v xs) : RdG enc sz w v xs := ⟨h.1, Rd.of_own h.2⟩
theorem OwG.lt (h : OwG enc sz E w B v xs) : ∀ k, v.ownBlock = some k → B ≤ k ∧ k < w.heap.size := World.ownsRow.lt h.2
theorem RdG.below (h : RdG enc sz w v xs) (hb : Below w.heap.size w w') : RdG enc sz w' v xs := ⟨h.1, h.2.below hb⟩
theorem RdG.below_of {C : Nat} (h : RdG enc sz w v xs) (hb : Below C w w') (hv : ∀ b, v.ownBlock = some b → b < C) : RdG enc sz w' v xs := ⟨h.1, h.2.below_of hb hv⟩
theorem RdG.alloc (h : RdG enc sz w v xs) (o : Obj) : RdG enc sz (w.alloc o) v xs := ⟨h.1, h.2.alloc o⟩
theorem RdG.drewN (h : RdG enc sz w v xs) (k : Nat) : RdG enc sz (w.drewN k) v xs := h
theorem RdG.open_ (h : RdG enc sz w v xs) : ∃ A cap, v = .slice A xs.length cap ∧ xs.length ≤ cap ∧ cap ≤ 9223372036854775807 ∧
    (∀ k x, xs[k]? = some x → 0 < sz → ∃ b off, A = some ⟨b, off, none⟩ ∧ b < w.heap.size ∧ ∀ j u, (enc x)[j]? = some u → w.cell? ⟨b, off + (k * sz + j), none⟩ = some u) := by
  obtain ⟨hn, _, A, cap, rfl, h3, h4, h5⟩ := h
  refine ⟨A, cap, rfl, h3, h4, fun k x hk hs => ?_⟩
  obtain ⟨b, off, rfl, hb, hc⟩ := h5 (by have := (List.getElem?_eq_some_iff.1 hk).1; omega)
  exact ⟨b, off, rfl, hb, fun j u hj => hc _ u (flat_at hn hk hj)⟩
theorem OwG.below {C : Nat} (h : OwG enc sz E w B v xs) (hb : Below C w w') (hC : ∀ b, v.ownBlock = some b → b < C) : OwG enc sz E w' B v xs := ⟨h.1, own_below h.2 hb hC⟩
theorem OwG.more {B' : Nat} (h : OwG enc sz E w B v xs) (hB : B' ≤ B) : OwG enc sz E w B' v xs := ⟨h.1, own_more h.2 hB⟩
theorem OwG.all (h : OwG enc sz E w B v xs) (hb : Below w.heap.size w w') : OwG enc sz E w' B v xs := ⟨h.1, own_all h.2 hb⟩
theorem OwG.far (h : OwG enc sz E w B v xs) {p : Addr} (hp : ∀ b, v.ownBlock = some b → b ≠ p.block) (u : Value) : OwG enc sz E (w.setCell p u) B v xs := by
  refine ⟨h.1, h.2.1, ?_⟩
  rcases h.2.2 with hn | ⟨g, cap, cur, rfl, hbg, hg, rest⟩
  · exact .inl hn
  · exact .inr ⟨g, cap, cur, rfl, hbg, by rw [Below.heap_setCell w p u g (hp g rfl)]; exact hg, rest⟩
theorem OwG.nil_ (henc : ∀ x, (enc x).length = sz) (E : TypeId) (w : World) (B : Nat) : OwG enc sz E w B (.slice none 0 0) [] := ⟨henc, World.ownsRow_nil w B E sz⟩
theorem RdG.nil_ (henc : ∀ x, (enc x).length = sz) (w : World) : RdG enc sz w (.slice none 0 0) [] := ⟨henc, Rd.nil_ w sz⟩
theorem OwG.form (h : OwG enc sz E w B v xs) (hn : 0 < xs.length) : ∃ g cap, v = .slice (some ⟨g, 0, none⟩) xs.length cap ∧ xs.length ≤ cap ∧ B ≤ g ∧ g < w.heap.size := by
  rcases h.2.2 with ⟨_, h0⟩ | ⟨g, cap, cur, rfl, hbg, hg, hnc, _⟩
  · omega
  · exact ⟨g, cap, rfl, hnc, hbg, (Array.getElem?_eq_some_iff.1 hg).1⟩
end
/-- Slices of strings. -/
def strV (s : ByteArray) : List Value := [.string s]
abbrev RdS := RdG strV 1
abbrev OwS := OwG strV 1
theorem strV_len : ∀ s, (strV s).length = 1 := fun _ => rfl
/-- Slices of changes. -/
def chgV (c : Chg) : List Value := [.int .i64 c.k, .int .i64 c.p, .string c.t]
abbrev RdC := RdG chgV 3
abbrev OwC := OwG chgV 3
theorem chgV_len : ∀ s, (chgV s).length = 3 := fun _ => rfl
section
variable {w : World} {v : Value} {cs : List Chg} {ss : List ByteArray}
theorem RdG.openC (h : RdC w v cs) : ∃ A cap, v = .slice A cs.length cap ∧ cs.length ≤ cap ∧ cap ≤ 9223372036854775807 ∧
    (∀ k c, cs[k]? = some c → ∃ b off, A = some ⟨b, off, none⟩ ∧ b < w.heap.size ∧ w.cell? ⟨b, off + k * 3, none⟩ = some (.int .i64 c.k) ∧ w.cell? ⟨b, off + k * 3 + 1, none⟩ = some (.int .i64 c.p) ∧ w.cell? ⟨b, off + k * 3 + 2, none⟩ = some (.string c.t)) := by
  obtain ⟨A, cap, rfl, h3, h4, h5⟩ := h.open_
  refine ⟨A, cap, rfl, h3, h4, fun k c hk => ?_⟩
  obtain ⟨b, off, rfl, hb, hc⟩ := h5 k c hk (by omega)
  exact ⟨b, off, rfl, hb, hc 0 _ rfl, hc 1 _ rfl, hc 2 _ rfl⟩
theorem RdG.openS (h : RdS w v ss) : ∃ A cap, v = .slice A ss.length cap ∧ ss.length ≤ cap ∧ cap ≤ 9223372036854775807 ∧
    (∀ k s, ss[k]? = some s → ∃ b off, A = some ⟨b, off, none⟩ ∧ b < w.heap.size ∧ w.cell? ⟨b, off + k, none⟩ = some (.string s)) := by
  obtain ⟨A, cap, rfl, h3, h4, h5⟩ := h.open_
  refine ⟨A, cap, rfl, h3, h4, fun k c hk => ?_⟩
  obtain ⟨b, off, rfl, hb, hc⟩ := h5 k c hk (by omega)
  exact ⟨b, off, rfl, hb, by have := hc 0 _ rfl; simpa using this⟩
end
theorem made_flat (z : Array Value) {sz : Nat} (hz : z.size = sz) (hs : 0 < sz) (n : Nat) : (madeCells z (n * sz)).toList = (List.replicate n ()).flatMap fun _ => z.toList := by
  apply List.ext_getElem?
  intro i
  have hlen : (madeCells z (n * sz)).toList.length = n * sz := by simp [madeCells]
  have hlen2 : ((List.replicate n ()).flatMap fun _ => z.toList).length = n * sz := by
    rw [flat_len (enc := fun _ : Unit => z.toList) (sz := sz) (fun _ => by simp [hz])]; simp
  by_cases hi : i < n * sz
  · have hk : i / sz < n := (Nat.div_lt_iff_lt_mul hs).2 hi
    have hj : i % sz < sz := Nat.mod_lt _ hs
    have e : i = i / sz * sz + i % sz := by have := Nat.div_add_mod i sz; rw [Nat.mul_comm] at this; exact this.symm
    have h2 := flat_at (enc := fun _ : Unit => z.toList) (sz := sz) (fun _ => by simp [hz]) (xs := List.replicate n ()) (k := i / sz) (j := i % sz) (x := ()) (u := z[i % sz]'(by omega)) (by simp [hk]) (by simp [hz, hj])
    rw [← e] at h2
    rw [h2, Array.getElem?_toList]
    unfold madeCells
    simp only [Array.getElem?_map, Array.getElem?_range, if_pos hi, Option.map_some, hz]
    rw [getElem!_pos z (i % sz) (by omega)]
  · rw [List.getElem?_eq_none (by omega), List.getElem?_eq_none (by omega)]
theorem flat_const {α : Type} {enc : α → List Value} (n : Nat) (x : α) : ((List.replicate n ()).flatMap fun _ => enc x) = (List.replicate n x).flatMap enc := by
  induction n with
  | zero => rfl
  | succ n ih => simp only [List.replicate_succ, List.flatMap_cons, ih]
theorem OwG.made {α : Type} {enc : α → List Value} {sz : Nat} (henc : ∀ x, (enc x).length = sz) (hs : 0 < sz) {E : TypeId} {w : World} {B n : Nat} {v : Value} (x : α) {z : Value} (hz : z.cells.toList = enc x)
    (h : w.ownsRow B E sz v n (madeCells z.cells (n * sz)).toList) : OwG enc sz E w B v (List.replicate n x) := by
  refine ⟨henc, ?_⟩
  rw [List.length_replicate, ← flat_const, ← hz]
  rw [made_flat z.cells (by rw [← Array.length_toList, hz, henc]) hs] at h
  exact h
theorem flat_set1 {xs : List ByteArray} {k : Nat} (x : ByteArray) : (xs.flatMap strV).set k (.string x) = (xs.set k x).flatMap strV := by
  induction xs generalizing k with
  | nil => simp
  | cons y t ih =>
    cases k with
    | zero => simp [strV]
    | succ k => simp only [List.flatMap_cons, strV, List.set_cons_succ, List.singleton_append]; rw [← ih]
theorem flat_set3 {xs : List Chg} {k : Nat} (c : Chg) (hk : k < xs.length) : (((xs.flatMap chgV).set (k * 3) (.int .i64 c.k)).set (k * 3 + 1) (.int .i64 c.p)).set (k * 3 + 2) (.string c.t) = (xs.set k c).flatMap chgV := by
  induction xs generalizing k with
  | nil => simp at hk
  | cons y t ih =>
    cases k with
    | zero => simp [chgV]
    | succ k =>
      have e : (k + 1) * 3 = k * 3 + 1 + 1 + 1 := by omega
      have := ih (k := k) (by simpa using hk)
      rw [e]
      simp only [List.flatMap_cons, chgV, List.cons_append, List.nil_append, List.set_cons_succ] at *
      rw [this]
section
variable {α : Type} {enc : α → List Value} {sz : Nat} {w : World} {E : TypeId} {B n g cap : Nat} {xs : List α}
theorem OwG.sizeN (h : OwG enc sz E w B (.slice (some ⟨g, 0, none⟩) n cap) xs) : n = xs.length := by
  rcases h.2.2 with ⟨h', _⟩ | ⟨g', cap', cur, h', _⟩
  · cases h'
  · injection h'
theorem OwG.cellN (h : OwG enc sz E w B (.slice (some ⟨g, 0, none⟩) n cap) xs) {k j : Nat} {x : α} {u : Value} (hk : xs[k]? = some x) (hj : (enc x)[j]? = some u) : w.cell? ⟨g, k * sz + j, none⟩ = some u := by
  obtain rfl := h.sizeN
  have hf := flat_at h.1 hk hj
  have := World.ownsRow.cellAt h.2 (k * sz + j) (by rw [← h.2.1]; exact (List.getElem?_eq_some_iff.1 hf).1)
  rw [this, hf]
theorem OwG.freeN (h : OwG enc sz E w B (.slice (some ⟨g, 0, none⟩) n cap) xs) (j : Nat) : w.frozen? ⟨g, j, none⟩ = false := by
  obtain rfl := h.sizeN
  exact World.ownsRow.frozenAt h.2 j
end
section
variable {w : World} {E : TypeId} {B n g cap : Nat}
theorem OwS_set {ss : List ByteArray} (h : OwS E w B (.slice (some ⟨g, 0, none⟩) n cap) ss) (k : Nat) (s : ByteArray) : OwS E (w.setCell ⟨g, k, none⟩ (.string s)) B (.slice (some ⟨g, 0, none⟩) n cap) (ss.set k s) ∧ w.grownBy (w.setCell ⟨g, k, none⟩ (.string s)) (some g) := by
  obtain rfl := h.sizeN
  have := World.ownsRow.stored h.2 k (.string s)
  refine ⟨⟨h.1, ?_⟩, this.2⟩
  rw [List.length_set, ← flat_set1]
  exact this.1
theorem OwC_set {cs : List Chg} (h : OwC E w B (.slice (some ⟨g, 0, none⟩) n cap) cs) {k : Nat} (hk : k < cs.length) (c : Chg) :
    OwC E (((w.setCell ⟨g, k * 3, none⟩ (.int .i64 c.k)).setCell ⟨g, k * 3 + 1, none⟩ (.int .i64 c.p)).setCell ⟨g, k * 3 + 2, none⟩ (.string c.t)) B (.slice (some ⟨g, 0, none⟩) n cap) (cs.set k c)
      ∧ w.grownBy (((w.setCell ⟨g, k * 3, none⟩ (.int .i64 c.k)).setCell ⟨g, k * 3 + 1, none⟩ (.int .i64 c.p)).setCell ⟨g, k * 3 + 2, none⟩ (.string c.t)) (some g) := by
  obtain rfl := h.sizeN
  have h1 := World.ownsRow.stored h.2 (k * 3) (.int .i64 c.k)
  have h2 := World.ownsRow.stored h1.1 (k * 3 + 1) (.int .i64 c.p)
  have h3 := World.ownsRow.stored h2.1 (k * 3 + 2) (.string c.t)
  refine ⟨⟨h.1, ?_⟩, (h1.2.trans h2.2).trans h3.2⟩
  rw [List.length_set, ← flat_set3 c hk]
  exact h3.1
end
end Go.Proofs.YtfifcnojkjjnkaaGreat
