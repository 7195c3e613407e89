/- Words for memory: a table of numbers, row by row in blocks of their own; the lengths of common subsequences. No program is named here. -/
import Derived.Test.YtpmflkoepnanoaaDoorLk
import Derived.Test.YtpmflkoepnanoaaDoorTa
namespace Go.Proofs.YtpmflkoepnanoaaDoor
open Go.RowKit
def arrA (V : Nat → Value) (n : Nat) : Array Value := ((List.range n).map V).toArray
theorem arrA_at {V : Nat → Value} {n i : Nat} (h : i < n) : (arrA V n)[i]? = some (V i) := by simp [arrA, h]
theorem arrA_set {V : Nat → Value} {n i : Nat} (x : Value) : (arrA V n).setIfInBounds i x = arrA (fun j => if j = i then x else V j) n := by
  apply Array.ext
  · simp [arrA]
  · intro j h1 h2
    simp only [arrA, Array.size_setIfInBounds, List.size_toArray, List.length_map, List.length_range] at h1
    rw [Array.getElem_setIfInBounds (by simpa [arrA] using h1)]
    simp only [arrA, List.getElem_toArray, List.getElem_map, List.getElem_range]
    by_cases h : i = j
    · subst h; simp
    · rw [if_neg h, if_neg (Ne.symm h)]
theorem arrA_congr {V W : Nat → Value} {n : Nat} (h : ∀ i, i < n → V i = W i) : arrA V n = arrA W n := by
  unfold arrA
  congr 1
  exact List.map_congr_left fun i hi => h i (List.mem_range.1 hi)
theorem own_bk {w : World} {B g n : Nat} {e : TypeId} {z : Value} (h : w.ownsRow B e 1 (.slice (some ⟨g, 0, none⟩) n n) n (madeCells (#[z] : Array Value) (n * 1)).toList) : Bk w g e (arrA (fun _ => z) n) := by
  rcases h.2 with ⟨h', _⟩ | ⟨g', cap, cur, h', hb, hg, hn, hm, hs, ht⟩
  · cases h'
  · injection h' with h1 h2 h3
    injection h1 with h1
    injection h1 with h1
    subst h1 h3
    have hc : cur.toList = (madeCells (#[z] : Array Value) (n * 1)).toList := by
      rw [← ht, List.take_of_length_le (by rw [Array.length_toList]; omega)]
    have he : cur = arrA (fun _ => z) n := by
      apply Array.toList_inj.1
      rw [hc, Nat.mul_one, toList_madeCells_one]
      simp [arrA, List.map_const']
    unfold Bk
    rw [hg, he]
/-- A table: block g holds the rows' slices, block R i the numbers of row i. -/
def Mat (TI TO : TypeId) (w : World) (g : Nat) (R : Nat → Nat) (n m : Nat) (M : Nat → Nat → Int) : Prop :=
  Bk w g TO (arrA (fun i => .slice (some ⟨R i, 0, none⟩) m m) n) ∧ (∀ i, i < n → Bk w (R i) TI (arrA (fun j => .int .i64 (M i j)) m)) ∧ (∀ i, i < n → R i ≠ g) ∧ (∀ i j, i < n → j < n → i ≠ j → R i ≠ R j)
section
variable {TI TO : TypeId} {w w' : World} {g n m : Nat} {R : Nat → Nat} {M M' : Nat → Nat → Int}
theorem Mat.out (h : Mat TI TO w g R n m M) {i : Nat} (hi : i < n) : w.cell? ⟨g, i, none⟩ = some (.slice (some ⟨R i, 0, none⟩) m m) := by rw [h.1.cell, arrA_at hi]
theorem Mat.at_ (h : Mat TI TO w g R n m M) {i j : Nat} (hi : i < n) (hj : j < m) : w.cell? ⟨R i, j, none⟩ = some (.int .i64 (M i j)) := by rw [(h.2.1 i hi).cell, arrA_at hj]
theorem Mat.free (h : Mat TI TO w g R n m M) {i : Nat} (hi : i < n) (j : Nat) : w.frozen? ⟨R i, j, none⟩ = false := (h.2.1 i hi).free j
theorem Mat.lt (h : Mat TI TO w g R n m M) {i : Nat} (hi : i < n) : R i < w.heap.size := (h.2.1 i hi).lt
theorem Mat.congr (h : Mat TI TO w g R n m M) (he : ∀ i j, i < n → j < m → M i j = M' i j) : Mat TI TO w g R n m M' :=
  ⟨h.1, fun i hi => by rw [← arrA_congr (V := fun j => Value.int .i64 (M i j)) (fun j hj => by rw [he i j hi hj])]; exact h.2.1 i hi, h.2.2⟩
theorem Mat.drewN (h : Mat TI TO w g R n m M) (k : Nat) : Mat TI TO (w.drewN k) g R n m M := h
theorem Mat.drew (h : Mat TI TO w g R n m M) : Mat TI TO w.drew g R n m M := h
theorem Mat.set_ (h : Mat TI TO w g R n m M) {i : Nat} (hi : i < n) (j : Nat) (x : Int) : Mat TI TO (w.setCell ⟨R i, j, none⟩ (.int .i64 x)) g R n m (fun a b => if a = i ∧ b = j then x else M a b) := by
  refine ⟨h.1.far (p := ⟨R i, j, none⟩) (fun e => h.2.2.1 i hi e.symm) _, fun k hk => ?_, h.2.2⟩
  by_cases hki : k = i
  · subst hki
    have := (h.2.1 k hk).set_ j (.int .i64 x)
    rw [arrA_set] at this
    rw [arrA_congr (W := fun b => if b = j then Value.int .i64 x else Value.int .i64 (M k b)) (fun b _ => by by_cases hb : b = j <;> simp [hb])]
    exact this
  · have := (h.2.1 k hk).far (p := ⟨R i, j, none⟩) (h.2.2.2 k i hk hi hki) (.int .i64 x)
    rw [arrA_congr (W := fun b => Value.int .i64 (M k b)) (fun b _ => by simp [hki])]
    exact this
theorem Mat.below {B : Nat} (h : Mat TI TO w g R n m M) (hb : Below B w w') (hg : g < B) (hR : ∀ i, i < n → R i < B) : Mat TI TO w' g R n m M :=
  ⟨h.1.below hb hg, fun i hi => (h.2.1 i hi).below hb (hR i hi), h.2.2⟩
end
/-- The lengths of the longest common subsequences of the ends. -/
def lenM (a b : List ByteArray) (r c : Nat) : Int := (lcsF (a.drop r) (b.drop c) : Int)
theorem lcsF_nil (xs : List ByteArray) : lcsF xs [] = 0 := by cases xs <;> simp [lcsF]
theorem lenM_row (a b : List ByteArray) (c : Nat) : lenM a b a.length c = 0 := by unfold lenM; rw [List.drop_length]; simp [lcsF]
theorem lenM_col (a b : List ByteArray) (r : Nat) : lenM a b r b.length = 0 := by unfold lenM; rw [List.drop_length, lcsF_nil]; rfl
theorem lenM_eq {a b : List ByteArray} {i j : Nat} {x y : ByteArray} (hx : a[i]? = some x) (hy : b[j]? = some y) : lenM a b i j = if x = y then lenM a b (i + 1) (j + 1) + 1 else max (lenM a b (i + 1) j) (lenM a b i (j + 1)) := by
  have hi := (List.getElem?_eq_some_iff.1 hx)
  have hj := (List.getElem?_eq_some_iff.1 hy)
  obtain ⟨hi1, hi2⟩ := hi
  obtain ⟨hj1, hj2⟩ := hj
  have e1 : a.drop i = x :: a.drop (i + 1) := by rw [List.drop_eq_getElem_cons hi1, hi2]
  have e2 : b.drop j = y :: b.drop (j + 1) := by rw [List.drop_eq_getElem_cons hj1, hj2]
  unfold lenM
  rw [e1, e2]
  simp only [lcsF]
  split
  · push_cast; rfl
  · omega
theorem lenM_bd (a b : List ByteArray) (r c : Nat) : 0 ≤ lenM a b r c ∧ lenM a b r c ≤ a.length := by
  unfold lenM
  have := lcsF_le (a.drop r) (b.drop c)
  rw [List.length_drop] at this
  omega
/-- The table, filled from row I on, and in the row before from column J on. -/
def MxF (a b : List ByteArray) (I J r c : Nat) : Int := if I ≤ r ∨ (r + 1 = I ∧ J ≤ c) then lenM a b r c else 0
theorem MxF_start {a b : List ByteArray} : ∀ r c, r < a.length + 1 → c < b.length + 1 → (0 : Int) = MxF a b a.length (b.length + 1) r c := by
  intro r c hr hc
  unfold MxF
  split
  · next h =>
    have : r = a.length := by omega
    rw [this, lenM_row]
  · rfl
theorem MxF_in {a b : List ByteArray} {i : Nat} : ∀ r c, r < a.length + 1 → c < b.length + 1 → MxF a b (i + 1) (b.length + 1) r c = MxF a b (i + 1) b.length r c := by
  intro r c hr hc
  unfold MxF
  by_cases h1 : i + 1 ≤ r
  · simp [h1]
  · by_cases h2 : r + 1 = i + 1 ∧ b.length ≤ c
    · have : c = b.length := by omega
      rw [if_neg (by omega), if_pos (.inr h2), this, lenM_col]
    · rw [if_neg (by omega), if_neg (by omega)]
theorem MxF_out {a b : List ByteArray} {i : Nat} : ∀ r c, r < a.length + 1 → c < b.length + 1 → MxF a b (i + 1) 0 r c = MxF a b i (b.length + 1) r c := by
  intro r c hr hc
  unfold MxF
  by_cases h1 : i ≤ r
  · rw [if_pos (by omega), if_pos (.inl h1)]
  · rw [if_neg (by omega), if_neg (by omega)]
theorem MxF_step {a b : List ByteArray} {i j : Nat} : ∀ r c, r < a.length + 1 → c < b.length + 1 → (if r = i ∧ c = j then lenM a b i j else MxF a b (i + 1) (j + 1) r c) = MxF a b (i + 1) j r c := by
  intro r c hr hc
  unfold MxF
  by_cases h : r = i ∧ c = j
  · rw [if_pos h, if_pos (by omega), h.1, h.2]
  · rw [if_neg h]
    by_cases h1 : i + 1 ≤ r ∨ r + 1 = i + 1 ∧ j + 1 ≤ c
    · rw [if_pos h1, if_pos (by omega)]
    · rw [if_neg h1, if_neg (by omega)]
theorem MxF_all {a b : List ByteArray} : ∀ r c, r < a.length + 1 → c < b.length + 1 → MxF a b 0 (b.length + 1) r c = lenM a b r c := by
  intro r c _ _
  unfold MxF
  rw [if_pos (.inl (Nat.zero_le _))]
theorem MxF_low {a b : List ByteArray} {i j c : Nat} : MxF a b (i + 1) j (i + 1) c = lenM a b (i + 1) c := by unfold MxF; rw [if_pos (.inl (Nat.le_refl _))]
theorem MxF_right {a b : List ByteArray} {i j : Nat} : MxF a b (i + 1) (j + 1) i (j + 1) = lenM a b i (j + 1) := by unfold MxF; rw [if_pos (.inr ⟨rfl, Nat.le_refl _⟩)]
end Go.Proofs.YtpmflkoepnanoaaDoor
