/- Contract: the table of lengths, by the reference. -/
import Derived.Test.YtpmflkoepnanoaaDoorZb
import Derived.Deep.RegionHeld
namespace Go.Proofs.YtpmflkoepnanoaaDoor
open Go.RowKit
theorem info_i64' : (Tryd.prog.info? 2).map (fun i => (i.zero, i.size, i.bytes)) = some (some (.int .i64 0), 1, 8) := by kernel_rfl
theorem info_sl64 : (Tryd.prog.info? 30).map (fun i => (i.zero, i.size, i.bytes)) = some (some (.slice none 0 0), 1, 24) := by kernel_rfl
theorem c_l00Max (x y : Int) (w : World) : Calls Tryd.prog 123 #[.int .i64 x, .int .i64 y] w fun e w' => e = .returned (.int .i64 (max x y)) ∧ w = w' := by
  by_cases h : y < x
  · have hm : max x y = x := by omega
    rw [hm]
    go_enter Tryd.func123, Tryd.ntmps123
    go_wp2
    go_ret
    exact ⟨rfl, rfl⟩
  · have hm : max x y = y := by omega
    rw [hm]
    go_enter Tryd.func123, Tryd.ntmps123
    go_wp2
    go_ret
    exact ⟨rfl, rfl⟩
/-- The table while the rows from k on are laid. -/
def MatP (TI TO : TypeId) (w : World) (g : Nat) (R : Nat → Nat) (n m k : Nat) (M : Nat → Nat → Int) : Prop :=
  Bk w g TO (arrA (fun i => if k ≤ i then .slice (some ⟨R i, 0, none⟩) m m else .slice none 0 0) n) ∧ (∀ i, k ≤ i → i < n → Bk w (R i) TI (arrA (fun j => .int .i64 (M i j)) m)) ∧ (∀ i, k ≤ i → i < n → g < R i) ∧ (∀ i j, k ≤ i → k ≤ j → i < n → j < n → i ≠ j → R i ≠ R j)
section
variable {TI TO : TypeId} {w w' : World} {g n m k : Nat} {R : Nat → Nat} {M M' : Nat → Nat → Int}
theorem MatP.out (h : MatP TI TO w g R n m k M) {i : Nat} (hk : k ≤ i) (hi : i < n) : w.cell? ⟨g, i, none⟩ = some (.slice (some ⟨R i, 0, none⟩) m m) := by rw [h.1.cell, arrA_at hi, if_pos hk]
theorem MatP.none_ (h : MatP TI TO w g R n m k M) {i : Nat} (hk : i < k) (hi : i < n) : w.cell? ⟨g, i, none⟩ = some (.slice none 0 0) := by rw [h.1.cell, arrA_at hi, if_neg (by omega)]
theorem MatP.at_ (h : MatP TI TO w g R n m k M) {i j : Nat} (hk : k ≤ i) (hi : i < n) (hj : j < m) : w.cell? ⟨R i, j, none⟩ = some (.int .i64 (M i j)) := by rw [(h.2.1 i hk hi).cell, arrA_at hj]
theorem MatP.free (h : MatP TI TO w g R n m k M) {i : Nat} (hk : k ≤ i) (hi : i < n) (j : Nat) : w.frozen? ⟨R i, j, none⟩ = false := (h.2.1 i hk hi).free j
theorem MatP.congr (h : MatP TI TO w g R n m k M) (he : ∀ i j, k ≤ i → i < n → j < m → M i j = M' i j) : MatP TI TO w g R n m k M' :=
  ⟨h.1, fun i hk hi => by rw [← arrA_congr (V := fun j => Value.int .i64 (M i j)) (fun j hj => by rw [he i j hk hi hj])]; exact h.2.1 i hk hi, h.2.2⟩
theorem MatP.set_ (h : MatP TI TO w g R n m k M) {i : Nat} (hki : k ≤ i) (hi : i < n) (j : Nat) (x : Int) : MatP TI TO (w.setCell ⟨R i, j, none⟩ (.int .i64 x)) g R n m k (fun a b => if a = i ∧ b = j then x else M a b) := by
  refine ⟨h.1.far (p := ⟨R i, j, none⟩) (fun e => by have := h.2.2.1 i hki hi; simp only at e; omega) _, fun q hkq hq => ?_, h.2.2⟩
  by_cases hqi : q = i
  · subst hqi
    have := (h.2.1 q hkq hq).set_ j (.int .i64 x)
    rw [arrA_set] at this
    rw [arrA_congr (W := fun b => if b = j then Value.int .i64 x else Value.int .i64 (M q b)) (fun b _ => by by_cases hb : b = j <;> simp [hb])]
    exact this
  · have := (h.2.1 q hkq hq).far (p := ⟨R i, j, none⟩) (h.2.2.2 q i hkq hki hq hi hqi) (.int .i64 x)
    rw [arrA_congr (W := fun b => Value.int .i64 (M q b)) (fun b _ => by simp [hqi])]
    exact this
/-- One row more, in front. -/
theorem MatP.row (h : MatP TI TO w g R n m (k + 1) M) (hk : k < n) (hb : Below w.heap.size w w') (hz : Bk w' w.heap.size TI (arrA (fun _ => .int .i64 0) m)) :
    MatP TI TO (w'.setCell ⟨g, k, none⟩ (.slice (some ⟨w.heap.size, 0, none⟩) m m)) g (fun i => if i = k then w.heap.size else R i) n m k (fun i j => if i = k then 0 else M i j) := by
  have hgl := h.1.lt
  refine ⟨?_, fun i hki hi => ?_, fun i hki hi => ?_, fun i j hki hkj hi hj hij => ?_⟩
  · have := (h.1.below hb hgl).set_ k (.slice (some ⟨w.heap.size, 0, none⟩) m m)
    rw [arrA_set, arrA_congr (W := fun i => if k ≤ i then Value.slice (some ⟨if i = k then w.heap.size else R i, 0, none⟩) m m else .slice none 0 0) (fun i _ => by
      by_cases h1 : i = k
      · subst h1; simp
      · by_cases h2 : k + 1 ≤ i
        · simp [h1, h2, show k ≤ i by omega]
        · simp [h1, h2, show ¬ k ≤ i by omega])] at this
    exact this
  · by_cases h1 : i = k
    · simp only [h1, if_true]
      exact hz.far (by show w.heap.size ≠ g; omega) _
    · simp only [h1, if_false]
      have := h.2.1 i (by omega) hi
      exact (this.below hb this.lt).far (by show R i ≠ g; have := h.2.2.1 i (by omega) hi; omega) _
  · by_cases h1 : i = k
    · simp only [h1, if_true]; exact hgl
    · simp only [h1, if_false]; exact h.2.2.1 i (by omega) hi
  · by_cases h1 : i = k <;> by_cases h2 : j = k
    · omega
    · simp only [h1, h2, if_true, if_false]
      have := (h.2.1 j (by omega) hj).lt; omega
    · simp only [h1, h2, if_true, if_false]
      have := (h.2.1 i (by omega) hi).lt; omega
    · simp only [h1, h2, if_false]
      exact h.2.2.2 i j (by omega) (by omega) hi hj hij
theorem MatP.all (h : MatP TI TO w g R n m 0 M) : Mat TI TO w g R n m M :=
  ⟨by have := h.1; simpa using this, fun i hi => h.2.1 i (Nat.zero_le _) hi, fun i hi => by have := h.2.2.1 i (Nat.zero_le _) hi; omega, fun i j hi hj => h.2.2.2 i j (Nat.zero_le _) (Nat.zero_le _) hi hj⟩
end
end Go.Proofs.YtpmflkoepnanoaaDoor
