/- Plain: a store with more samples. Contract: AppendSignal of the other side. -/
import Derived.Test.YtpmflkoepnanoaaGreatJm
namespace Go.Proofs.YtpmflkoepnanoaaGreat
open Go.RowKit
theorem plF_prefix {s : ByteArray} : ∀ (k p : Nat) (acc xs : List Int), plF s k p acc = (xs, 0) → ∃ r, xs = acc ++ (p : Int) :: r
  | 0, p, acc, xs, h => by
    by_cases he : p = s.size
    · rw [plF_end he] at h
      injection h with h1 h2
      exact ⟨[], h1.symm⟩
    · rw [plF_bad he] at h
      injection h with h1 h2
      exact absurd h2 (by decide)
  | k + 1, p, acc, xs, h => by
    by_cases hc : s.size < p + 2 ∨ s.size < p + 2 + numS s p
    · rw [plF_cut hc] at h
      injection h with h1 h2
      exact absurd h2 (by decide)
    · rw [plF_go hc] at h
      obtain ⟨r, rfl⟩ := plF_prefix k _ _ _ h
      exact ⟨_, by rw [List.append_assoc]; rfl⟩
theorem Opn.first {s : ByteArray} {t : List Nat} (h : Opn s t) : plc s 0 = 10 := by
  obtain ⟨_, _, _, _, h0⟩ := places_steps h.places
  have hp := h.places
  unfold placesF at hp
  rw [if_pos h0] at hp
  obtain ⟨r, hr⟩ := plF_prefix _ _ _ _ hp
  unfold plc
  rw [h.places, hr]
  rfl
theorem Opn.bd {s : ByteArray} {t : List Nat} (h : Opn s t) : ∀ j, j ≤ cntF s → 10 ≤ plc s j ∧ plc s j ≤ s.size
  | 0, _ => by
    have h1 := h.first
    have h2 := h.steps.2 0 (by rw [h.len]; omega)
    rw [← h.plcs 0] at h2
    omega
  | j + 1, hj => by
    have h1 := (h.bd j (by omega)).1
    have h2 := h.le (j := j) (by omega)
    omega
theorem Opn.cell1 {s : ByteArray} {t : List Nat} (h : Opn s t) {j : Nat} (hj : j ≤ cntF s) {w : World} {A : Option Addr} {l cap : Nat} (hr : RdI w (.slice A l cap) (t.map fun (x : Nat) => (x : Int))) :
    ∃ b off, A = some ⟨b, off, none⟩ ∧ b < w.heap.size ∧ w.cell? ⟨b, off + j, none⟩ = some (.int .i64 (plc s j : Nat)) ∧ l = cntF s + 1 := by
  obtain ⟨A', cap', he, hl, hc, hx⟩ := hr.open_
  injection he with h1 h2 h3
  subst h1 h3
  have hta : t[j]? = some (plc s j) := by rw [h.plcs j, List.getD_eq_getElem?_getD, List.getElem?_eq_getElem (show j < t.length by rw [h.len]; omega)]; rfl
  obtain ⟨B, off, rfl, hB, hca⟩ := hx j (plc s j : Nat) (by rw [List.getElem?_map, hta]; rfl)
  have hlen : (t.map fun (x : Nat) => (x : Int)).length = cntF s + 1 := by rw [List.length_map]; exact h.len
  exact ⟨B, off, rfl, hB, hca, by rw [h2, hlen]⟩
theorem nch_rem0 {n f : Nat} (hf : 16 ≤ f) (h : n % f = 0) : nch n f = n / f := by
  unfold nch
  have h1 := Nat.div_add_mod n f
  rw [h, Nat.add_zero, Nat.mul_comm] at h1
  apply Nat.div_eq_of_lt_le
  · omega
  · rw [Nat.add_mul]; omega
theorem nch_rem1 {n f : Nat} (hf : 16 ≤ f) (h : n % f ≠ 0) : nch n f = n / f + 1 := by
  unfold nch
  have h1 := Nat.div_add_mod n f
  have h2 := Nat.mod_lt n (show 0 < f by omega)
  rw [Nat.mul_comm] at h1
  apply Nat.div_eq_of_lt_le
  · rw [Nat.add_mul]; omega
  · rw [Nat.add_mul, Nat.add_mul]; omega
theorem restF_smp : ∀ (m : Nat) (xs : List Int), (∀ x ∈ xs, Smp x) → ∀ x ∈ restF m xs, Smp x
  | 0, _, h => h
  | m + 1, xs, _ => by simp only [restF]; exact restF_smp m _ (sumL_smp xs)
theorem decFrF_smp (s : ByteArray) : ∀ x ∈ (decFrF s).1, Smp x := by
  unfold decFrF
  split
  · simp
  · split
    · simp
    · split
      · simp
      · split
        · simp
        · split
          · simp
          · exact restF_smp _ _ (decF_bd (l := (bitS s).data.toList) (k := bA s 3) (numS s 0) 0 [] (Nat.zero_le _) (by simp)).1
theorem frK_smp (s : ByteArray) (j : Nat) : ∀ x ∈ (frK s j).1, Smp x := by
  unfold frK loadF
  split
  · simp
  · split
    · simp
    · exact decFrF_smp _
/-- What is left of a frame that is not full. -/
def restK (s : ByteArray) : List Int × Int := if numS s 6 % numS s 4 = 0 then ([], 0) else frK s (numS s 6 / numS s 4)
def allL (s : ByteArray) (xs : List Int) : List Int := (restK s).1 ++ xs
def apdS (s : ByteArray) (xs : List Int) : ByteArray := headS (numS s 4) (numS s 6 + xs.length) ++ s.extract 10 (plc s (numS s 6 / numS s 4)) ++ bodyTo (allL s xs) (numS s 4) (nch (allL s xs).length (numS s 4))
def apdF (s : ByteArray) (xs : List Int) : ByteArray × Int :=
  if sigB xs = false then (⟨#[]⟩, 1) else if (placesF s).2 ≠ 0 then (⟨#[]⟩, (placesF s).2) else if 4000 < numS s 6 + xs.length then (⟨#[]⟩, 5)
  else if (restK s).2 ≠ 0 then (⟨#[]⟩, (restK s).2) else (apdS s xs, 0)
section
variable {s : ByteArray} {xs ps : List Int} {c : Int}
theorem apd1 (h : sigB xs = false) : apdF s xs = (⟨#[]⟩, 1) := by unfold apdF; rw [if_pos h]
theorem apd2 (h : sigB xs = true) (hp : placesF s = (ps, c)) (hc : c ≠ 0) : apdF s xs = (⟨#[]⟩, c) := by unfold apdF; rw [if_neg (by rw [h]; simp), hp]; exact if_pos hc
theorem apd3 (h : sigB xs = true) (hp : placesF s = (ps, 0)) (hk : 4000 < numS s 6 + xs.length) : apdF s xs = (⟨#[]⟩, 5) := by unfold apdF; rw [if_neg (by rw [h]; simp), hp]; simp only; rw [if_neg (by simp), if_pos hk]
theorem apd4 (h : sigB xs = true) (hp : placesF s = (ps, 0)) (hk : ¬ 4000 < numS s 6 + xs.length) {rs : List Int} (hr : restK s = (rs, c)) (hc : c ≠ 0) : apdF s xs = (⟨#[]⟩, c) := by
  unfold apdF; rw [if_neg (by rw [h]; simp), hp]; simp only; rw [if_neg (by simp), if_neg hk, hr]; exact if_pos hc
theorem apd5 (h : sigB xs = true) (hp : placesF s = (ps, 0)) (hk : ¬ 4000 < numS s 6 + xs.length) {rs : List Int} (hr : restK s = (rs, 0)) : apdF s xs = (apdS s xs, 0) := by
  unfold apdF; rw [if_neg (by rw [h]; simp), hp]; simp only; rw [if_neg (by simp), if_neg hk, hr]; simp
end
theorem restK_len {s : ByteArray} {t : List Nat} (h : Opn s t) {rs : List Int} (hr : restK s = (rs, 0)) : rs.length ≤ numS s 6 := by
  unfold restK at hr
  split at hr
  · injection hr with h1 _; subst h1; simp
  · have h1 := frK_len (s := s) (j := numS s 6 / numS s 4) (by rw [hr])
    rw [hr] at h1
    simp only at h1
    rw [h1]
    unfold lenK
    omega
theorem restK_smp (s : ByteArray) : ∀ x ∈ (restK s).1, Smp x := by
  unfold restK
  split
  · simp
  · exact frK_smp _ _
end Go.Proofs.YtpmflkoepnanoaaGreat
