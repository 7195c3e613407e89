/- Arguments that are structs of slices of structs read as nested data. No program is named here. -/
import Derived.Test.YtfifcnojkjjnkaaGreatNg
import Derived.Test.YtfifcnojkjjnkaaGreatUg
namespace Go.Proofs.YtfifcnojkjjnkaaGreat
open Go.RowKit Go.ChangeShapes Go.WideShapes Go.Deep
theorem rds_range {w : World} (tr : Nat → T) (g : Nat → List Value) : ∀ (l : List Nat), (∀ i ∈ l, T.rd w (tr i) (g i)) → T.rds w (l.map tr) (l.flatMap g)
  | [], _ => T.c_re
  | i :: l, h => by
    simp only [List.map_cons, List.flatMap_cons, T.rds]
    exact ⟨_, _, rfl, h i (by simp), rds_range tr g l (fun j hj => h j (by simp [hj]))⟩
theorem rdT_open {α H : Type} {enc : TypeId × Value → H} {P : Program} {w : World} {base : Nat} {spare : Nat → Bool} {held : Bool} {t e : TypeId} {fuel : Nat} {cs : List Value} {x : DataW H × List MemPlace} (E : TypeId)
    (tr : α → T) {sz : Nat} (good : α → Prop) (hw : ∀ x, T.wide (tr x) = sz) (hs : 0 < sz) (dflt : α) (ht : P.underlying t = some (.slice e)) (ce : P.cellsOf e = sz)
    (hel : ∀ n cs' y, DataW.trod enc P w base spare held n e cs' = some y → ∃ z, T.rd w (tr z) cs' ∧ good z)
    (h : DataW.trod enc P w base spare held fuel t cs = some x) : ∃ (v : Value) (xs : List α), cs = [v] ∧ T.rd w (.sl E sz (xs.map tr)) [v] ∧ ∀ z ∈ xs, good z := by
  rcases open_slice ht h with ⟨rfl, _⟩ | ⟨a, len, cap, m, n, D, Pl, rfl, hb, hl, hm, hmm, _, hx⟩
  · refine ⟨_, [], rfl, ?_, by simp⟩
    simp only [T.rd, List.map_nil]
    exact ⟨_, [], rfl, by simp, Rd.nil_ w sz, by simp [T.rds]⟩
  · have hlm : len ≤ m := by rw [hmm]; split <;> omega
    have each : ∀ i, i < len → ∃ z : α × List Value, z.2.length = sz ∧ T.rd w (tr z.1) z.2 ∧ good z.1 ∧ ∀ j, j < sz → w.cell? (a.add (i * sz + j)) = z.2[j]? := by
      intro i hi
      obtain ⟨cs', h1, h2⟩ := hx i (by omega)
      rw [ce] at h1
      obtain ⟨_, hlen, hcell⟩ := World.cells?_some h1
      obtain ⟨z, hz, hg⟩ := hel _ _ _ h2
      refine ⟨(z, cs'), hlen, hz, hg, fun j hj => ?_⟩
      rw [← hcell j hj, add_add]
    obtain ⟨f, hf⟩ := @choose_lt (α × List Value) ⟨(dflt, [])⟩ len _ each
    let g : Nat → List Value := fun i => if i < len then (f i).2 else List.replicate sz (.bool true)
    have hgl : ∀ i, (g i).length = sz := fun i => by
      show (if i < len then (f i).2 else _).length = sz
      split
      · next hi => exact (hf i hi).1
      · simp
    have hgi : ∀ i, i < len → g i = (f i).2 := fun i hi => if_pos hi
    refine ⟨_, (List.range len).map fun i => (f i).1, rfl, ?_, ?_⟩
    · simp only [T.rd]
      refine ⟨_, (List.range len).flatMap g, rfl, ?_, ?_, ?_⟩
      · intro y hy
        obtain ⟨z, _, rfl⟩ := List.mem_map.1 hy
        exact hw z
      · have hlen : (((List.range len).map fun i => (f i).1).map tr).length = len := by simp
        rw [hlen]
        refine ⟨by rw [flat_len hgl]; simp, some a, cap, rfl, hl, by unfold maxLen at hm; omega, fun hn => ?_⟩
        have hc0 := (hf 0 hn).2.2.2 0 hs
        rw [List.getElem?_eq_getElem (by rw [(hf 0 hn).1]; exact hs)] at hc0
        have hz : a.add (0 * sz + 0) = a := by simp [Addr.add]
        rw [hz] at hc0
        have hsp : a.spot = none := by
          unfold World.cell? at hc0
          split at hc0
          · split at hc0
            · cases hc0
            · rename_i h'; simpa using h'
          · cases hc0
        obtain ⟨b, off, sp⟩ := a
        simp only at hsp
        subst hsp
        refine ⟨b, off, rfl, World.block_lt_of_cell? w _ hc0, fun j u hu => ?_⟩
        have hj : j < len * sz := by have := (List.getElem?_eq_some_iff.1 hu).1; rw [flat_len hgl] at this; simpa using this
        have hk : j / sz < len := (Nat.div_lt_iff_lt_mul hs).2 hj
        have hjm : j % sz < sz := Nat.mod_lt _ hs
        have ej : j / sz * sz + j % sz = j := by have := Nat.div_add_mod j sz; rw [Nat.mul_comm] at this; exact this
        have h1 := (hf (j / sz) hk).2.2.2 (j % sz) hjm
        have hin : (g (j / sz))[j % sz]? = some ((g (j / sz))[j % sz]'(by rw [hgl]; exact hjm)) := List.getElem?_eq_getElem _
        have h3 := flat_at hgl (xs := List.range len) (k := j / sz) (j := j % sz) (x := j / sz) (by simp [hk]) hin
        rw [ej, hu] at h3
        rw [ej, ← hgi _ hk, hin, ← h3] at h1
        rw [show (⟨b, off + j, none⟩ : Addr) = (⟨b, off, none⟩ : Addr).add j by unfold Addr.add; split <;> simp_all]
        exact h1
      · have := rds_range (w := w) (fun i => tr (f i).1) g (List.range len) (fun i hi => by
          have hi' := List.mem_range.1 hi
          rw [hgi i hi']; exact (hf i hi').2.1)
        rw [List.map_map]
        exact this
    · intro z hz
      simp only [List.mem_map, List.mem_range] at hz
      obtain ⟨i, hi, rfl⟩ := hz
      exact (hf i hi).2.2.1
end Go.Proofs.YtfifcnojkjjnkaaGreat
