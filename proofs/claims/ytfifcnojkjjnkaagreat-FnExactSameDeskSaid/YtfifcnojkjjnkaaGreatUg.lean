/- Arguments: a slice of structs that came in reads as a list. No program is named here. -/
import Derived.Test.YtfifcnojkjjnkaaGreatUa
import Derived.Deep.Slices
import Derived.ChangeSame
import Derived.ChangeArms
namespace Go.Proofs.YtfifcnojkjjnkaaGreat
open Go.RowKit Go.ChangeShapes Go.WideShapes Go.Deep
theorem rdG_open {α H : Type} {enc : TypeId × Value → H} {P : Program} {w : World} {base : Nat} {spare : Nat → Bool} {held : Bool} {t e : TypeId} {fuel : Nat} {cs : List Value} {x : DataW H × List MemPlace}
    (en : α → List Value) {sz : Nat} (good : α → Prop) (hen : ∀ x, (en x).length = sz) (hs : 0 < sz) (dflt : α) (ht : P.underlying t = some (.slice e)) (ce : P.cellsOf e = sz)
    (hel : ∀ n cs' y, cs'.length = sz → DataW.trod enc P w base spare held n e cs' = some y → ∃ z, cs' = en z ∧ good z)
    (h : DataW.trod enc P w base spare held fuel t cs = some x) : ∃ v xs, cs = [v] ∧ RdG en sz w v xs ∧ ∀ z ∈ xs, good z := by
  rcases open_slice ht h with ⟨rfl, _⟩ | ⟨a, len, cap, m, n, D, Pl, rfl, hb, hl, hm, hmm, _, hx⟩
  · exact ⟨_, [], rfl, RdG.nil_ hen w, by simp⟩
  · have hlm : len ≤ m := by rw [hmm]; split <;> omega
    have each : ∀ i, i < len → ∃ z, good z ∧ ∀ j, j < sz → w.cell? (a.add (i * sz + j)) = (en z)[j]? := by
      intro i hi
      obtain ⟨cs', h1, h2⟩ := hx i (by omega)
      rw [ce] at h1
      obtain ⟨_, hlen, hcell⟩ := World.cells?_some h1
      obtain ⟨z, rfl, hg⟩ := hel _ _ _ hlen h2
      refine ⟨z, hg, fun j hj => ?_⟩
      rw [← hcell j hj, add_add]
    obtain ⟨f, hf⟩ := @choose_lt α ⟨dflt⟩ len _ each
    refine ⟨_, (List.range len).map f, rfl, ⟨hen, ?_⟩, ?_⟩
    · have hlen : ((List.range len).map f).length = len := by simp
      refine ⟨flat_len hen _, some a, cap, by rw [hlen], by rw [hlen]; exact hl, by unfold maxLen at hm; omega, fun hn => ?_⟩
      rw [hlen] at hn
      have hc0 := (hf 0 hn).2 0 hs
      have he0 : (en (f 0))[0]? = some ((en (f 0))[0]'(by rw [hen]; exact hs)) := List.getElem?_eq_getElem _
      rw [he0] at hc0
      have hz : a.add (0 * sz + 0) = a := by simp [Addr.add]
      rw [hz] at hc0
      have hsp : a.spot = none := by
        unfold World.cell? at hc0
        split at hc0
        · split at hc0
          · cases hc0
          · rename_i h'; simpa using h'
        · cases hc0
      obtain ⟨b, off, sp⟩ := a
      simp only at hsp
      subst hsp
      refine ⟨b, off, rfl, World.block_lt_of_cell? w _ hc0, fun j u hu => ?_⟩
      have hj : j < len * sz := by have := (List.getElem?_eq_some_iff.1 hu).1; rw [flat_len hen, hlen] at this; exact this
      have hk : j / sz < len := (Nat.div_lt_iff_lt_mul hs).2 hj
      have hjm : j % sz < sz := Nat.mod_lt _ hs
      have ej : j / sz * sz + j % sz = j := by have := Nat.div_add_mod j sz; rw [Nat.mul_comm] at this; exact this
      have h1 := (hf (j / sz) hk).2 (j % sz) hjm
      have hu2 : (en (f (j / sz)))[j % sz]? = some u := by
        have hin : (en (f (j / sz)))[j % sz]? = some ((en (f (j / sz)))[j % sz]'(by rw [hen]; exact hjm)) := List.getElem?_eq_getElem _
        have := flat_at hen (xs := (List.range len).map f) (k := j / sz) (j := j % sz) (x := f (j / sz)) (by simp [hk]) hin
        rw [ej, hu] at this
        rw [hin, this]
      rw [ej, hu2] at h1
      rw [show (⟨b, off + j, none⟩ : Addr) = (⟨b, off, none⟩ : Addr).add j by unfold Addr.add; split <;> simp_all]
      exact h1
    · intro z hz
      simp only [List.mem_map, List.mem_range] at hz
      obtain ⟨i, hi, rfl⟩ := hz
      exact (hf i hi).1
def GoodC (c : Chg) : Prop := c.t.size ≤ 9223372036854775807
theorem rdC_open {H : Type} {enc : TypeId × Value → H} {P : Program} {w : World} {base : Nat} {spare : Nat → Bool} {held : Bool} {t e : TypeId} {f0 f1 f2 : Field} {fuel : Nat} {cs : List Value} {x : DataW H × List MemPlace}
    (ht : P.underlying t = some (.slice e)) (he : P.underlying e = some (.struct #[f0, f1, f2])) (ce : P.cellsOf e = 3) (o0 : f0.offset = 0) (o1 : f1.offset = 1) (o2 : f2.offset = 2)
    (c0 : P.cellsOf f0.type = 1) (c1 : P.cellsOf f1.type = 1) (c2 : P.cellsOf f2.type = 1) (u0 : P.underlying f0.type = some (.int .i64)) (u1 : P.underlying f1.type = some (.int .i64)) (u2 : P.underlying f2.type = some .string)
    (h : DataW.trod enc P w base spare held fuel t cs = some x) : ∃ v xs, cs = [v] ∧ RdC w v xs ∧ ∀ z ∈ xs, GoodC z := by
  refine rdG_open chgV GoodC chgV_len (by omega) ⟨0, 0, ByteArray.empty⟩ ht ce (fun n cs' y hl hy => ?_) h
  obtain ⟨ys, k, _, _, _, hyl, hf⟩ := DataW.trod_struct he hy
  match ys, hyl, cs', hl with
  | [y0, y1, y2], _, [v0, v1, v2], _ =>
    have g0 := hf 0 f0 rfl
    have g1 := hf 1 f1 rfl
    have g2 := hf 2 f2 rfl
    simp [o0, o1, o2, c0, c1, c2] at g0 g1 g2
    obtain ⟨n0, e0, _, _⟩ := DataW.trod_int u0 g0
    obtain ⟨n1, e1, _, _⟩ := DataW.trod_int u1 g1
    obtain ⟨s2, e2, _, hs2⟩ := DataW.trod_string u2 g2
    simp only [List.cons.injEq, and_true] at e0 e1 e2
    subst e0 e1 e2
    exact ⟨⟨n0, n1, s2⟩, rfl, by unfold GoodC; unfold maxLen at hs2; simp only; omega⟩
end Go.Proofs.YtfifcnojkjjnkaaGreat
