/- Contracts: a part of a store that is loaded; the other side. -/
import Derived.Test.YtpmflkoepnanoaaJa
namespace Go.Proofs.Ytpmflkoepnanoaa
open Go.RowKit
/-- Samples lo to hi, out of the first i. -/
def midL (xs : List Int) (lo hi i : Nat) : List Int := (xs.take (min i hi)).drop lo
theorem midL_in {xs : List Int} {lo hi i : Nat} (h1 : lo ≤ i) (h2 : i < hi) (hl : i < xs.length) : midL xs lo hi (i + 1) = midL xs lo hi i ++ [xs[i]] := by
  unfold midL
  rw [Nat.min_eq_left (by omega), Nat.min_eq_left (by omega), take_snoc_of (List.getElem?_eq_getElem hl), List.drop_append_of_le_length (by rw [List.length_take]; omega)]
theorem midL_out {xs : List Int} {lo hi i : Nat} (h : ¬ (lo ≤ i ∧ i < hi)) : midL xs lo hi (i + 1) = midL xs lo hi i := by
  unfold midL
  by_cases h2 : i < hi
  · rw [List.drop_eq_nil_of_le (by rw [List.length_take]; omega), List.drop_eq_nil_of_le (by rw [List.length_take]; omega)]
  · rw [Nat.min_eq_right (by omega), Nat.min_eq_right (by omega)]
theorem midL_zero (xs : List Int) (lo hi : Nat) : midL xs lo hi 0 = [] := by unfold midL; simp
theorem midL_len (xs : List Int) (lo hi i : Nat) : (midL xs lo hi i).length ≤ xs.length := by unfold midL; rw [List.length_drop, List.length_take]; omega
theorem midL_end {xs : List Int} {lo hi : Nat} (h : hi ≤ xs.length) : midL xs lo hi xs.length = (xs.drop lo).take (hi - lo) := by
  unfold midL; rw [Nat.min_eq_right h, List.drop_take]
/-- The frame behind the last one that is wanted. -/
def endK (f fr n : Nat) : Nat := if n = 0 then fr / f else (fr + n - 1) / f + 1
theorem endK_iff {f fr n k : Nat} (hf : 16 ≤ f) (hk : fr / f ≤ k) : (0 < n ∧ k * f < fr + n) ↔ k < endK f fr n := by
  unfold endK
  by_cases h : n = 0
  · rw [if_pos h]; subst h; constructor
    · rintro ⟨h1, _⟩; omega
    · intro h1; omega
  · rw [if_neg h, Nat.lt_succ_iff, Nat.le_div_iff_mul_le (by omega)]
    constructor
    · rintro ⟨_, h2⟩; omega
    · intro h1; exact ⟨by omega, by omega⟩
theorem endK_ge (f fr n : Nat) : fr / f ≤ endK f fr n := by
  unfold endK
  split
  · exact Nat.le_refl _
  · exact Nat.le_succ_of_le (Nat.div_le_div_right (by omega))
theorem endK_le (f fr n : Nat) : endK f fr n * f ≤ fr + n + f := by
  unfold endK
  split
  · have := Nat.div_mul_le_self fr f; omega
  · have := Nat.div_mul_le_self (fr + n - 1) f
    rw [Nat.add_mul]; omega
/-- What frame k gives of samples fr to fr + n. -/
def partK (s : ByteArray) (fr n k : Nat) : List Int := midL (frK s k).1 (fr - k * numS s 4) (min (frK s k).1.length (fr + n - k * numS s 4)) (frK s k).1.length
def rngF (s : ByteArray) (fr n : Nat) : Nat → Nat → List Int → List Int × Int
  | 0, _, acc => (acc, 0)
  | c + 1, k, acc => if (frK s k).2 ≠ 0 then ([], (frK s k).2) else rngF s fr n c (k + 1) (acc ++ partK s fr n k)
def rangeF (s : ByteArray) (fr n : Nat) : List Int × Int := rngF s fr n (endK (numS s 4) fr n - fr / numS s 4) (fr / numS s 4) []
theorem rngF_no {s : ByteArray} {fr n c k : Nat} {acc xs : List Int} {e : Int} (h : frK s k = (xs, e)) (he : e ≠ 0) : rngF s fr n (c + 1) k acc = ([], e) := by simp only [rngF]; rw [h]; exact if_pos he
theorem rngF_go {s : ByteArray} {fr n c k : Nat} {acc : List Int} (h : (frK s k).2 = 0) : rngF s fr n (c + 1) k acc = rngF s fr n c (k + 1) (acc ++ partK s fr n k) := by simp only [rngF]; exact if_neg (by simpa using h)
theorem frK_bd (s : ByteArray) (k : Nat) : (frK s k).1.length ≤ 70000 := by
  unfold frK loadF
  split
  · simp
  · split
    · simp
    · exact decFrF_len
end Go.Proofs.Ytpmflkoepnanoaa
