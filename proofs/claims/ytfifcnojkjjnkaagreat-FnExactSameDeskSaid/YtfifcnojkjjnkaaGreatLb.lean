/- Words for memory: a slice that reads as a list, a slice of the call's own, kept over what other calls do. No program is named here. -/
import Derived.WalkKit
import Derived.WalkSpells
import Derived.WalkLawsBesides
import Derived.Deep.AppendLies
import Derived.Maps.AppendAt
import Derived.Deep.Draws
import Derived.Deep.QuietTactic
import Derived.BigQuiet
namespace Go.Proofs.YtfifcnojkjjnkaaGreat
open Go.RowKit

/-- Only draws lie between the two worlds. -/
def Dr (w w' : World) : Prop := ∃ n, w' = w.drewN n
theorem Dr.refl (w : World) : Dr w w := ⟨0, rfl⟩
theorem Dr.trans {a b c : World} (h : Dr a b) (k : Dr b c) : Dr a c := by
  obtain ⟨n, rfl⟩ := h
  obtain ⟨m, rfl⟩ := k
  exact ⟨n + m, World.drewN_drewN _ _ _⟩
theorem Dr.drew {a b : World} (h : Dr a b) : Dr a b.drew := h.trans ⟨1, rfl⟩
theorem Dr.drewN {a b : World} (h : Dr a b) (n : Nat) : Dr a (b.drewN n) := h.trans ⟨n, rfl⟩
theorem Dr.below {a b c : World} {B : Nat} (h : Below B a b) (k : Dr b c) : Below B a c := by
  obtain ⟨n, rfl⟩ := k
  exact ⟨h.os, h.tape, h.output, h.size, h.block⟩
theorem Dr.to_below {a b : World} (h : Dr a b) (B : Nat) : Below B a b := Dr.below (Below.refl _ _) h
theorem ret_int {k : IntKind} {a b : Int} (h : a = b) : Ending.returned (.int k a) = .returned (.int k b) := by rw [h]
theorem ret_bool {a b : Bool} (h : a = b) : Ending.returned (.bool a) = .returned (.bool b) := by rw [h]
theorem ret_str {a b : ByteArray} (h : a = b) : Ending.returned (.string a) = .returned (.string b) := by rw [h]
/-- A fact kept from the walk: no tactic looks into it. -/
structure Sec (p : Prop) : Prop where
  out : p
theorem hide {p : Prop} (h : p) : Sec p := ⟨h⟩
/-- The slice value v holds n elements of size cells each; its cells are cs. -/
def Rd (w : World) (v : Value) (size n : Nat) (cs : List Value) : Prop :=
  cs.length = n * size ∧ ∃ A cap, v = .slice A n cap ∧ n ≤ cap ∧ cap ≤ 9223372036854775807 ∧
    (0 < n → ∃ b off, A = some ⟨b, off, none⟩ ∧ b < w.heap.size ∧ ∀ j u, cs[j]? = some u → w.cell? ⟨b, off + j, none⟩ = some u)

section
variable {w w' : World} {v : Value} {size n : Nat} {cs : List Value}
theorem Rd.keep (h : Rd w v size n cs) (hs : w.heap.size ≤ w'.heap.size) (hk : ∀ b, v.ownBlock = some b → b < w.heap.size → w'.heap[b]? = w.heap[b]?) : Rd w' v size n cs := by
  obtain ⟨h1, A, cap, rfl, h3, h4, h5⟩ := h
  refine ⟨h1, A, cap, rfl, h3, h4, fun hn => ?_⟩
  obtain ⟨b, off, rfl, hb, hc⟩ := h5 hn
  exact ⟨b, off, rfl, by omega, fun j u hu => (World.cell?_of_block (hk b rfl hb)).trans (hc j u hu)⟩
theorem Rd.below (h : Rd w v size n cs) (hb : Below w.heap.size w w') : Rd w' v size n cs := h.keep hb.size fun b _ hlt => hb.block b hlt
theorem Rd.below_of {B : Nat} (h : Rd w v size n cs) (hb : Below B w w') (hv : ∀ b, v.ownBlock = some b → b < B) : Rd w' v size n cs := h.keep hb.size fun b e _ => hb.block b (hv b e)
theorem Rd.grown {row : Option Nat} (h : Rd w v size n cs) (hg : w.grownBy w' row) (hv : ∀ b, v.ownBlock = some b → some b ≠ row) : Rd w' v size n cs :=
  h.keep hg.size fun b e hlt => hg.block b hlt (hv b e)
theorem Rd.alloc (h : Rd w v size n cs) (o : Obj) : Rd (w.alloc o) v size n cs := h.keep (by simp) fun b _ hlt => Below.heap_alloc w o b hlt
theorem Rd.drew (h : Rd w v size n cs) : Rd w.drew v size n cs := h
theorem Rd.drewN (h : Rd w v size n cs) (k : Nat) : Rd (w.drewN k) v size n cs := h
theorem Rd.setCell (h : Rd w v size n cs) {p : Addr} (hp : ∀ b, v.ownBlock = some b → b ≠ p.block) (u : Value) : Rd (w.setCell p u) v size n cs :=
  h.keep (by simp [World.setCell]) fun b e _ => Below.heap_setCell w p u b (hp b e)
theorem Rd.nil_ (w : World) (size : Nat) : Rd w (.slice none 0 0) size 0 [] := ⟨by simp, none, 0, rfl, Nat.le_refl _, by omega, fun h => absurd h (by omega)⟩
theorem Rd.of_own {base : Nat} {e : TypeId} (h : w.ownsRow base e size v n cs) : Rd w v size n cs := by
  refine ⟨h.1, ?_⟩
  rcases h.2 with ⟨rfl, rfl⟩ | ⟨g, cap, cur, rfl, hb, hg, hn, hm, hs, ht⟩
  · exact ⟨none, 0, rfl, Nat.le_refl _, by omega, fun h => absurd h (by omega)⟩
  · refine ⟨some ⟨g, 0, none⟩, cap, rfl, hn, by unfold maxLen at hm; omega, fun hpos => ⟨g, 0, rfl, (Array.getElem?_eq_some_iff.1 hg).1, fun j u hu => ?_⟩⟩
    have := h.cells (g := g) rfl j u hu
    rw [show (⟨g, 0 + j, none⟩ : Addr) = (⟨g, 0, none⟩ : Addr).add j by unfold Addr.add; split <;> simp_all]
    exact this
end

/-- A slice of int64 that reads as xs. -/
def RdI (w : World) (v : Value) (xs : List Int) : Prop := Rd w v 1 xs.length (xs.map (Value.int .i64))
/-- A slice of elements of type E, one cell each, of the call's own: from block B on. -/
def OwI (E : TypeId) (w : World) (B : Nat) (v : Value) (xs : List Int) : Prop := w.ownsRow B E 1 v xs.length (xs.map (Value.int .i64))

section
variable {w w' : World} {v : Value} {xs : List Int} {E : TypeId} {B : Nat}
theorem OwI.rd (h : OwI E w B v xs) : RdI w v xs := Rd.of_own h
theorem OwI.lt (h : OwI E w B v xs) : ∀ k, v.ownBlock = some k → B ≤ k ∧ k < w.heap.size := World.ownsRow.lt h
theorem RdI.below (h : RdI w v xs) (hb : Below w.heap.size w w') : RdI w' v xs := Rd.below h hb
theorem RdI.keep (h : RdI w v xs) (hs : w.heap.size ≤ w'.heap.size) (hk : ∀ b, v.ownBlock = some b → b < w.heap.size → w'.heap[b]? = w.heap[b]?) : RdI w' v xs := Rd.keep h hs hk
theorem RdI.grown {row : Option Nat} (h : RdI w v xs) (hg : w.grownBy w' row) (hv : ∀ b, v.ownBlock = some b → some b ≠ row) : RdI w' v xs := Rd.grown h hg hv
theorem RdI.open_ (h : RdI w v xs) : ∃ A cap, v = .slice A xs.length cap ∧ xs.length ≤ cap ∧ cap ≤ 9223372036854775807 ∧
    (∀ k x, xs[k]? = some x → ∃ b off, A = some ⟨b, off, none⟩ ∧ b < w.heap.size ∧ w.cell? ⟨b, off + k, none⟩ = some (.int .i64 x)) := by
  obtain ⟨_, A, cap, rfl, h3, h4, h5⟩ := h
  refine ⟨A, cap, rfl, h3, h4, fun k x hk => ?_⟩
  obtain ⟨b, off, rfl, hb, hc⟩ := h5 (by have := (List.getElem?_eq_some_iff.1 hk).1; omega)
  exact ⟨b, off, rfl, hb, hc k _ (by rw [List.getElem?_map, hk]; rfl)⟩
theorem OwI.below {C : Nat} (h : OwI E w B v xs) (hb : Below C w w') (hC : ∀ b, v.ownBlock = some b → b < C) : OwI E w' B v xs := by
  refine ⟨h.1, ?_⟩
  rcases h.2 with hn | ⟨g, cap, cur, rfl, hbg, hg, rest⟩
  · exact .inl hn
  · exact .inr ⟨g, cap, cur, rfl, hbg, by rw [hb.block g (hC g rfl)]; exact hg, rest⟩
theorem OwI.more {B' : Nat} (h : OwI E w B v xs) (hB : B' ≤ B) : OwI E w B' v xs := by
  refine ⟨h.1, ?_⟩
  rcases h.2 with hn | ⟨g, cap, cur, rfl, hbg, hg, rest⟩
  · exact .inl hn
  · exact .inr ⟨g, cap, cur, rfl, by omega, hg, rest⟩
end

section
variable {P : Program}
/-- append of one element, which the call has just laid in a block of its own. -/
theorem app_one {w : World} {ops : Array Oper} {rest : List Oper} {o : Oper} {a : Act} {Q : Exit → Act → World → Prop} {news : Array Value} (hgd : o.guard = none) (s x : Operand) (t : TypeId)
    (ho : o.op = .call { callee := .builtin .append, args := #[s, x], argTypes := #[t, t] })
    (base : Nat) (e : TypeId) (z : Value) (size bytes : Nat) (ht : P.underlying t = some (.slice e)) (hinfo : (P.info? e).map (fun i => (i.zero, i.size, i.bytes)) = some (some z, size, bytes))
    (hzs : z.cells.size = size) (hsz : 0 < size)
    (v : Value) (n : Nat) (xs : List Value) (hs : a.eval s = v) (hown : w.ownsRow base e size v n xs)
    (hx : a.eval x = .slice (some ⟨w.heap.size, 0, none⟩) 1 1) (hl : news.size = size) (h1 : ∀ u ∈ news.toList, u.oneCell' = true)
    (hbytes : (n + 1) * bytes ≤ 140737488355328) (h63 : n + 1 ≤ 9223372036854775807) (hbase : base ≤ w.heap.size)
    (h : ∀ v' w', w'.ownsRow base e size v' (n + 1) (xs ++ news.toList) → w.grownBy w' v.ownBlock → (∀ k, v'.ownBlock = some k → v.ownBlock = some k ∨ w.heap.size ≤ k) → wpList P ops Q rest (a.put o.dst v') w') :
    wpList P ops Q (o :: rest) a (w.alloc (.cells news e)) := by
  obtain ⟨i0, hi, hz0, hz1, hz2⟩ := info_parts hinfo
  refine wpList_append_own_at _ hgd s x t ho base e i0 z size bytes ht hi hz0 hz1 hz2 hzs hsz v n xs hs (hown.alloc _) ⟨w.heap.size, 0, none⟩ 1 1 news.toList hx (by simp [hl]) ?_ h1 (by unfold maxLen; omega) hbytes (by simp; omega) ?_
  · exact World.news_of_block (heap_alloc_new w _)
  · intro v' w' h2 h3 _ h5
    refine h v' w' h2 ((World.grownBy_alloc w _ _).trans h3) fun k hk => ?_
    rcases h5 with h5 | h5
    · exact .inl (h5 ▸ hk)
    · rw [h5] at hk; simp at hk; exact .inr (by omega)
/-- append of all elements of a slice that reads. -/
theorem app_many {w : World} {ops : Array Oper} {rest : List Oper} {o : Oper} {a : Act} {Q : Exit → Act → World → Prop} (hgd : o.guard = none) (s x : Operand) (t : TypeId)
    (ho : o.op = .call { callee := .builtin .append, args := #[s, x], argTypes := #[t, t] })
    (base : Nat) (e : TypeId) (z : Value) (size bytes : Nat) (ht : P.underlying t = some (.slice e)) (hinfo : (P.info? e).map (fun i => (i.zero, i.size, i.bytes)) = some (some z, size, bytes))
    (hzs : z.cells.size = size) (hsz : 0 < size)
    (v : Value) (n : Nat) (xs : List Value) (hs : a.eval s = v) (hown : w.ownsRow base e size v n xs)
    (y : Value) (m : Nat) (ys : List Value) (hx : a.eval x = y) (hr : Rd w y size m ys) (h1 : ∀ u ∈ ys, u.oneCell' = true)
    (hbytes : (n + m) * bytes ≤ 140737488355328) (h63 : n + m ≤ 9223372036854775807) (hbase : base ≤ w.heap.size)
    (h : ∀ v' w', w'.ownsRow base e size v' (n + m) (xs ++ ys) → w.grownBy w' v.ownBlock → (∀ k, v'.ownBlock = some k → v.ownBlock = some k ∨ w.heap.size ≤ k) → wpList P ops Q rest (a.put o.dst v') w') :
    wpList P ops Q (o :: rest) a w := by
  obtain ⟨i0, hi, hz0, hz1, hz2⟩ := info_parts hinfo
  obtain ⟨hl, A, cap, rfl, hc1, hc2, hcell⟩ := hr
  rcases Nat.eq_zero_or_pos m with hm | hm
  · subst hm
    have hn : ys = [] := List.eq_nil_of_length_eq_zero (by simpa using hl)
    subst hn
    have hrun : (Builtin.append_ #[t, t] o.type #[v, .slice A 0 cap]).run P w = .ok v w := by
      rcases hown.2 with ⟨rfl, rfl⟩ | ⟨g, cap', cur, rfl, _, _, hnc, _⟩
      · cases A <;> simp [Builtin.append_, run_underlying ht, sizeOf, typeInfo, hi, Builtin.lenOf, Builtin.firstCells, loadCells, loadCellsFrom]
      · cases A <;> simp [Builtin.append_, run_underlying ht, sizeOf, typeInfo, hi, Builtin.lenOf, Builtin.firstCells, hnc, storeCells, loadCells, loadCellsFrom]
    refine wpList_plain hgd fun K hK => ?_
    unfold Oper.wp execOp
    simp only [ho, resolve, invoke, builtin, Sem.run_bind, Sem.run_pure, Result.andThen_ok, List.map_toArray, List.map_cons, List.map_nil, hs, hx, hrun]
    exact hK _ _ (h v w (by simpa using hown) (World.grownBy.refl _ _) fun k hk => .inl hk)
  · obtain ⟨b, off, rfl, hb, hcc⟩ := hcell hm
    refine wpList_append_own_at _ hgd s x t ho base e i0 z size bytes ht hi hz0 hz1 hz2 hzs hsz v n xs hs hown ⟨b, off, none⟩ m cap ys hx hl ?_ h1 (by unfold maxLen; omega) hbytes hbase ?_
    · intro j u hu
      rw [show (⟨b, off, none⟩ : Addr).add j = ⟨b, off + j, none⟩ by unfold Addr.add; split <;> simp_all]
      exact hcc j u hu
    · intro v' w' h2 h3 _ h5
      refine h v' w' h2 h3 fun k hk => ?_
      rcases h5 with h5 | h5
      · exact .inl (h5 ▸ hk)
      · rw [h5] at hk; simp at hk; exact .inr (by omega)
end

theorem below_own {base : Nat} {e : TypeId} {size n : Nat} {v : Value} {cs : List Value} {B : Nat} {w0 w w' : World} (hb : Below B w0 w) (hown : w.ownsRow base e size v n cs) (hg : w.grownBy w' v.ownBlock) (h1 : B ≤ base) (h2 : B ≤ w.heap.size) : Below B w0 w' :=
  hb.grown hg h2 fun k hk => Nat.le_trans h1 (hown.lt k hk).1
theorem below_size {B : Nat} {w w' : World} (hb : Below B w w') : w.heap.size ≤ w'.heap.size := hb.size

section
variable {w : World} {E : TypeId} {B : Nat} {v : Value} {xs : List Int}
theorem OwI.form (h : OwI E w B v xs) (hn : 0 < xs.length) : ∃ g cap, v = .slice (some ⟨g, 0, none⟩) xs.length cap ∧ xs.length ≤ cap ∧ B ≤ g ∧ g < w.heap.size := by
  rcases h.2 with ⟨_, h0⟩ | ⟨g, cap, cur, rfl, hbg, hg, hnc, _⟩
  · omega
  · exact ⟨g, cap, rfl, hnc, hbg, (Array.getElem?_eq_some_iff.1 hg).1⟩
theorem OwI.cell {g cap : Nat} (h : OwI E w B (.slice (some ⟨g, 0, none⟩) xs.length cap) xs) {j : Nat} {x : Int} (hj : xs[j]? = some x) : w.cell? ⟨g, j, none⟩ = some (.int .i64 x) := by
  have hl := (List.getElem?_eq_some_iff.1 hj).1
  have := World.ownsRow.cellAt h j (by omega)
  rw [this, List.getElem?_map, hj]; rfl
theorem OwI.free {g cap : Nat} (h : OwI E w B (.slice (some ⟨g, 0, none⟩) xs.length cap) xs) (j : Nat) : w.frozen? ⟨g, j, none⟩ = false := World.ownsRow.frozenAt h j
theorem OwI.set_ {g cap : Nat} (h : OwI E w B (.slice (some ⟨g, 0, none⟩) xs.length cap) xs) (j : Nat) (x : Int) :
    OwI E (w.setCell ⟨g, j, none⟩ (.int .i64 x)) B (.slice (some ⟨g, 0, none⟩) xs.length cap) (xs.set j x) := by
  have := (World.ownsRow.stored h j (.int .i64 x)).1
  unfold OwI
  rw [List.map_set, List.length_set]
  exact this
theorem OwI.nil_ (E : TypeId) (w : World) (B : Nat) : OwI E w B (.slice none 0 0) [] := World.ownsRow_nil w B E 1
theorem OwI.made (E : TypeId) (w : World) {n : Nat} (hB : B ≤ w.heap.size) (hn : n ≤ maxLen) (z : Int) (h : w.ownsRow B E 1 v n (madeCells (Value.int .i64 z).cells (n * 1)).toList) : OwI E w B v (List.replicate n z) := by
  unfold OwI
  have e : (madeCells (Value.int .i64 z).cells (n * 1)).toList = List.replicate n (Value.int .i64 z) := by
    rw [Nat.mul_one]; exact toList_madeCells_one _ n
  rw [e] at h
  simpa using h
end

section
variable {w w' : World} {E : TypeId} {B : Nat} {xs : List Int} {g n cap : Nat}
/-- The same, where the length stands by itself. -/
theorem OwI.cellN (h : OwI E w B (.slice (some ⟨g, 0, none⟩) n cap) xs) {j : Nat} {x : Int} (hj : xs[j]? = some x) : w.cell? ⟨g, j, none⟩ = some (.int .i64 x) := by
  have hl := (List.getElem?_eq_some_iff.1 hj).1
  have hn : n = xs.length := by
    rcases h.2 with ⟨h', _⟩ | ⟨g', cap', cur, h', _⟩
    · cases h'
    · injection h'
  subst hn
  exact h.cell hj
theorem OwI.freeN (h : OwI E w B (.slice (some ⟨g, 0, none⟩) n cap) xs) (j : Nat) : w.frozen? ⟨g, j, none⟩ = false := by
  have hn : n = xs.length := by
    rcases h.2 with ⟨h', _⟩ | ⟨g', cap', cur, h', _⟩
    · cases h'
    · injection h'
  subst hn
  exact h.free j
theorem OwI.setN (h : OwI E w B (.slice (some ⟨g, 0, none⟩) n cap) xs) (j : Nat) (x : Int) : OwI E (w.setCell ⟨g, j, none⟩ (.int .i64 x)) B (.slice (some ⟨g, 0, none⟩) n cap) (xs.set j x) := by
  have hn : n = xs.length := by
    rcases h.2 with ⟨h', _⟩ | ⟨g', cap', cur, h', _⟩
    · cases h'
    · injection h'
  subst hn
  exact h.set_ j x
theorem OwI.grownN (h : OwI E w B (.slice (some ⟨g, 0, none⟩) n cap) xs) (j : Nat) (u : Value) : w.grownBy (w.setCell ⟨g, j, none⟩ u) (some g) := by
  have hn : n = xs.length := by
    rcases h.2 with ⟨h', _⟩ | ⟨g', cap', cur, h', _⟩
    · cases h'
    · injection h'
  subst hn
  exact (World.ownsRow.stored h j u).2
theorem OwI.sizeN (h : OwI E w B (.slice (some ⟨g, 0, none⟩) n cap) xs) : n = xs.length := by
  rcases h.2 with ⟨h', _⟩ | ⟨g', cap', cur, h', _⟩
  · cases h'
  · injection h'
end

/-- A slice of the call's own in a block from lo on and below hi. -/
def Fr (E : TypeId) (w : World) (lo hi : Nat) (v : Value) (xs : List Int) : Prop := OwI E w lo v xs ∧ ∀ k, v.ownBlock = some k → k < hi
theorem bthen {a b c : World} {B : Nat} (h : Below B a b) (hB : B ≤ b.heap.size) (k : Below b.heap.size b c) : Below B a c := h.trans (k.mono hB)
section
variable {w w' : World} {E E' : TypeId} {lo hi lo' hi' : Nat} {v v' : Value} {xs ys : List Int}
theorem Fr.born (h : OwI E w' w.heap.size v xs) : Fr E w' w.heap.size w'.heap.size v xs := ⟨h, fun k hk => (h.lt k hk).2⟩
theorem Fr.rd (h : Fr E w lo hi v xs) : RdI w v xs := h.1.rd
theorem Fr.below {B : Nat} (h : Fr E w lo hi v xs) (hb : Below B w w') (hB : hi ≤ B) : Fr E w' lo hi v xs := ⟨h.1.below hb fun b hb => Nat.lt_of_lt_of_le (h.2 b hb) hB, h.2⟩
theorem Fr.dr (h : Fr E w lo hi v xs) (hd : Dr w w') : Fr E w' lo hi v xs := by
  obtain ⟨n, rfl⟩ := hd
  exact h
theorem Fr.other (h : Fr E w lo hi v xs) (h' : Fr E' w lo' hi' v' ys) (hg : w.grownBy w' v'.ownBlock) (hd : hi ≤ lo' ∨ hi' ≤ lo) : Fr E w' lo hi v xs := by
  refine ⟨⟨h.1.1, ?_⟩, h.2⟩
  rcases h.1.2 with hn | ⟨g, cap, cur, rfl, hbg, hg', rest⟩
  · exact .inl hn
  · refine .inr ⟨g, cap, cur, rfl, hbg, ?_, rest⟩
    rw [hg.block g (Array.getElem?_eq_some_iff.1 hg').1 ?_]
    · exact hg'
    · intro e
      have h1 := h'.1.lt g e.symm
      have h2 := h'.2 g e.symm
      have h3 := h.2 g rfl
      omega
theorem Fr.mark (h : Fr E w lo hi v xs) (h2 : OwI E w' lo v ys) : Fr E w' lo hi v ys := ⟨h2, h.2⟩
theorem Fr.below_mark {B : Nat} {w0 : World} (h : Fr E w lo hi v xs) (hb : Below B w0 w) (hg : w.grownBy w' v.ownBlock) (h1 : B ≤ lo) (h2 : B ≤ w.heap.size) : Below B w0 w' := below_own hb h.1 hg h1 h2
end
theorem dr_size {a b : World} (h : Dr a b) : b.heap.size = a.heap.size := by
  obtain ⟨n, rfl⟩ := h
  rfl

/-- An argument that is a slice of int64 reads as the numbers up to its length. -/
theorem rd_of_row {w : World} {a : Option Addr} {len cap : Nat} {zs : List Int} (h : (a = none ∧ len = 0 ∧ cap = 0 ∧ zs = []) ∨
    ∃ x, a = some x ∧ len ≤ cap ∧ cap ≤ maxLen ∧ zs.length = cap ∧ (∀ i, i < zs.length → w.cell? (x.add i) = some (.int .i64 (zs.getD i 0))) ∧ ∀ n ∈ zs, (Lit.int .i64 n).wf = true) :
    RdI w (.slice a len cap) (zs.take len) ∧ ∀ n ∈ zs.take len, -9223372036854775808 ≤ n ∧ n ≤ 9223372036854775807 := by
  rcases h with ⟨rfl, rfl, rfl, rfl⟩ | ⟨x, rfl, hl, hc, hz, hcell, hwf⟩
  · exact ⟨Rd.nil_ w 1, by simp⟩
  · have hlen : (zs.take len).length = len := by rw [List.length_take]; omega
    refine ⟨⟨by simp, some x, cap, by rw [hlen], by omega, by unfold maxLen at hc; omega, fun hn => ?_⟩, fun n hn => ?_⟩
    · have h0 := hcell 0 (by omega)
      have hs : x.spot = none := by
        have : (x.add 0) = x := by simp [Addr.add]
        rw [this] at h0
        unfold World.cell? at h0
        split at h0
        · split at h0
          · cases h0
          · rename_i h'; simpa using h'
        · cases h0
      obtain ⟨b, off, sp⟩ := x
      simp only at hs
      subst hs
      refine ⟨b, off, rfl, World.block_lt_of_cell? w _ (by simpa [Addr.add] using h0), fun j u hu => ?_⟩
      have hj : j < len := by have := (List.getElem?_eq_some_iff.1 hu).1; simp at this; omega
      have := hcell j (by omega)
      rw [show (⟨b, off + j, none⟩ : Addr) = (⟨b, off, none⟩ : Addr).add j by unfold Addr.add; split <;> simp_all, this]
      rw [List.getElem?_map, List.getElem?_take] at hu
      rw [if_pos hj, List.getElem?_eq_getElem (by omega)] at hu
      simp at hu
      rw [← hu, List.getD_eq_getElem?_getD, List.getElem?_eq_getElem (by omega)]; rfl
    · have := hwf n (List.mem_of_mem_take hn)
      simpa [Lit.wf, IntKind.min, IntKind.max, IntKind.signed, IntKind.bits] using this
theorem i64_of_wf {x : Int} (h : (Lit.int .i64 x).wf = true) : -9223372036854775808 ≤ x ∧ x ≤ 9223372036854775807 := by
  simpa [Lit.wf, IntKind.min, IntKind.max, IntKind.signed, IntKind.bits] using h

/-- The bytes as a string. -/
def mkS (bs : List UInt8) : ByteArray := ⟨bs.toArray⟩
theorem size_mkS (bs : List UInt8) : (mkS bs).size = bs.length := by simp [mkS, ByteArray.size]
theorem data_mkS (bs : List UInt8) : (mkS bs).data.toList = bs := rfl
theorem mkS_data (s : ByteArray) : mkS s.data.toList = s := by cases s; simp [mkS]
theorem mkS_append (a b : List UInt8) : mkS a ++ mkS b = mkS (a ++ b) := by
  apply ByteArray.ext
  simp [mkS]
theorem fold_push (bs : List UInt8) : ∀ s : ByteArray, (bs.map fun b => (b.toNat : Int)).foldl (fun r n => r.push (UInt8.ofNat n.toNat)) s = s ++ mkS bs := by
  induction bs with
  | nil => intro s; apply ByteArray.ext; simp [mkS]
  | cons b bs ih =>
    intro s
    rw [List.map_cons, List.foldl_cons, ih]
    have e : UInt8.ofNat ((b.toNat : Int)).toNat = b := by simp
    rw [e]
    apply ByteArray.ext
    simp [mkS]
/-- A slice of bytes that reads as bs. -/
def RdY (w : World) (v : Value) (bs : List UInt8) : Prop := Rd w v 1 bs.length (bs.map fun b => Value.int .u8 (b.toNat : Int))
def OwY (E : TypeId) (w : World) (B : Nat) (v : Value) (bs : List UInt8) : Prop := w.ownsRow B E 1 v bs.length (bs.map fun b => Value.int .u8 (b.toNat : Int))
theorem OwY.rd {E : TypeId} {w : World} {B : Nat} {v : Value} {bs : List UInt8} (h : OwY E w B v bs) : RdY w v bs := Rd.of_own h
theorem run_str {P : Program} {w : World} {src dst e : TypeId} {v : Value} {bs : List UInt8}
    (hs : P.underlying src = some (.slice e)) (he : P.underlying e = some (.int .u8)) (hd : P.underlying dst = some .string) (h : RdY w v bs) :
    (convert src dst v).run P w = .ok (.string (mkS bs)) w := by
  obtain ⟨h1, A, cap, rfl, h3, h4, h5⟩ := h
  rw [run_convert_bytes_string w src dst e A bs.length cap hs he hd]
  rcases Nat.eq_zero_or_pos bs.length with h0 | h0
  · have : bs = [] := List.eq_nil_of_length_eq_zero h0
    subst this
    cases A with
    | none => simp [Conv.bytesToString, mkS]; rfl
    | some a =>
      have := run_bytesToString (P := P) w a 0 cap [] (by simp [loadCells, loadCellsFrom])
      show _ = Result.ok (Value.string ByteArray.empty) w
      simpa using this
  · obtain ⟨b, off, rfl, hb, hc⟩ := h5 h0
    have hcell : (loadCells ⟨b, off, none⟩ bs.length).run P w = .ok ((bs.map fun b => (b.toNat : Int)).map (Value.int .u8)).toArray w := by
      have := run_loadCells_list (P := P) w ⟨b, off, none⟩ (bs.map fun b => Value.int .u8 (b.toNat : Int)) (fun j u hu => by
        rw [show (⟨b, off, none⟩ : Addr).add j = ⟨b, off + j, none⟩ by unfold Addr.add; split <;> simp_all]
        exact hc j u hu)
      rw [List.length_map] at this
      rw [this, List.map_map]; rfl
    rw [run_bytesToString w _ _ _ _ hcell, fold_push]
    congr 2
/-- The byte at a place, 0 behind the end. -/
def bA (s : ByteArray) (n : Nat) : Nat := (s.data.toList.getD n 0).toNat
theorem bA_get {s : ByteArray} {n : Nat} (h : n < s.size) : (s[n]'h).toNat = bA s n := by
  unfold bA
  have h' : n < s.data.toList.length := by rw [Array.length_toList]; exact h
  rw [List.getD_eq_getElem?_getD, List.getElem?_eq_getElem h']
  rfl
theorem bA_lt (s : ByteArray) (n : Nat) : bA s n < 256 := UInt8.toNat_lt _

theorem undrew {w w1 : World} (h : Below w.drew.heap.size w.drew w1) : Below w.heap.size w w1 := ⟨h.os, h.tape, h.output, h.size, h.block⟩
theorem undrewN {w w1 : World} {n B : Nat} (h : Below B (w.drewN n) w1) : Below B w w1 := ⟨h.os, h.tape, h.output, h.size, h.block⟩
theorem below_drewN {B : Nat} {a w : World} (h : Below B a w) (n : Nat) : Below B a (w.drewN n) := ⟨h.os, h.tape, h.output, h.size, h.block⟩

section
variable {w w' : World} {B : Nat} {E : TypeId} {sz n : Nat} {v : Value} {cs : List Value}
theorem own_below {C : Nat} (h : w.ownsRow B E sz v n cs) (hb : Below C w w') (hC : ∀ b, v.ownBlock = some b → b < C) : w'.ownsRow B E sz v n cs := by
  refine ⟨h.1, ?_⟩
  rcases h.2 with hn | ⟨g, cap, cur, rfl, hbg, hg, rest⟩
  · exact .inl hn
  · exact .inr ⟨g, cap, cur, rfl, hbg, by rw [hb.block g (hC g rfl)]; exact hg, rest⟩
theorem own_more {B' : Nat} (h : w.ownsRow B E sz v n cs) (hB : B' ≤ B) : w.ownsRow B' E sz v n cs := by
  refine ⟨h.1, ?_⟩
  rcases h.2 with hn | ⟨g, cap, cur, rfl, hbg, hg, rest⟩
  · exact .inl hn
  · exact .inr ⟨g, cap, cur, rfl, by omega, hg, rest⟩
theorem own_all (h : w.ownsRow B E sz v n cs) (hb : Below w.heap.size w w') : w'.ownsRow B E sz v n cs := own_below h hb fun b hb => (h.lt b hb).2
end
end Go.Proofs.YtfifcnojkjjnkaaGreat
