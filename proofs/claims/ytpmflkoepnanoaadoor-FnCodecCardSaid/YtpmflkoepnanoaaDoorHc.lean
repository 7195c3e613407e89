/- Plain: the bits of bytes; how codes are read. -/
import Derived.Test.YtpmflkoepnanoaaDoorLb
import Derived.Test.YtpmflkoepnanoaaDoorPl
namespace Go.Proofs.YtpmflkoepnanoaaDoor
open Go.RowKit

/-- The bits of the first bytes. -/
def unpkTo (s : ByteArray) : Nat → List UInt8
  | 0 => []
  | k + 1 => unpkTo s k ++ digL (bA s k) 8
def unpkL (s : ByteArray) : List UInt8 := unpkTo s s.size
theorem length_unpkTo (s : ByteArray) (k : Nat) : (unpkTo s k).length = 8 * k := by
  induction k with
  | zero => rfl
  | succ k ih => simp only [unpkTo, List.length_append, length_digL, ih]; omega
theorem bits_unpkTo (s : ByteArray) (k : Nat) : Bits (unpkTo s k) := by
  induction k with
  | zero => intro b hb; simp [unpkTo] at hb
  | succ k ih =>
    intro b hb
    simp only [unpkTo, List.mem_append] at hb
    rcases hb with hb | hb
    · exact ih b hb
    · exact bits_digL _ _ b hb
/-- The ones from a place on, f at most. -/
def onesF (l : List UInt8) : Nat → Nat → Nat
  | 0, _ => 0
  | f + 1, p => if bitN l p = 1 then onesF l f (p + 1) + 1 else 0
theorem onesF_le (l : List UInt8) : ∀ f p, onesF l f p ≤ f
  | 0, _ => Nat.le_refl _
  | f + 1, p => by
    have := onesF_le l f (p + 1)
    simp only [onesF]; split <;> omega
theorem bitN_one_lt {l : List UInt8} {p : Nat} (h : bitN l p = 1) : p < l.length := by
  by_cases hl : p < l.length
  · exact hl
  · rw [bitN_end (by omega)] at h; omega
theorem onesF_in (l : List UInt8) : ∀ f p, p ≤ l.length → p + onesF l f p ≤ l.length
  | 0, p, h => by simpa [onesF] using h
  | f + 1, p, h => by
    simp only [onesF]
    split
    · rename_i h1
      have := bitN_one_lt h1
      have := onesF_in l f (p + 1) (by omega)
      omega
    · exact h
/-- The number of c bits from a place on. -/
def readF (l : List UInt8) (p : Nat) : Nat → Nat
  | 0 => 0
  | c + 1 => 2 * readF l p c + bitN l (p + c)
theorem readF_lt (l : List UInt8) (p c : Nat) : readF l p c < 2 ^ c := by
  induction c with
  | zero => simp [readF]
  | succ c ih => have := bitN_le l (p + c); simp only [readF, Nat.pow_succ]; omega
/-- The sample for which a number stands. -/
def unfF (n : Nat) : Int := if n % 2 = 1 then -((((n + 1) / 2 : Nat)) : Int) else ((n / 2 : Nat) : Int)
theorem unfF_smp {n : Nat} (h : n ≤ 4294967295) : Smp (unfF n) := by
  unfold Smp unfF; split <;> omega
/-- A sample from a place on: the sample, the place behind it, and a code. -/
def sampF (l : List UInt8) (p k : Nat) : Int × Nat × Int :=
  if onesF l 20 p = 20 then
    if l.length < p + 52 then (0, 0, 11)
    else if readF l (p + 20) 32 / 2 ^ k < 20 then (0, 0, 9) else (unfF (readF l (p + 20) 32), p + 52, 0)
  else
    if l.length < p + onesF l 20 p + 1 + k then (0, 0, 11)
    else if 4294967295 < onesF l 20 p * 2 ^ k + readF l (p + onesF l 20 p + 1) k then (0, 0, 9)
    else (unfF (onesF l 20 p * 2 ^ k + readF l (p + onesF l 20 p + 1) k), p + onesF l 20 p + 1 + k, 0)
theorem sampF_code (l : List UInt8) (p k : Nat) : (sampF l p k).2.2 = 0 ∨ (sampF l p k).2.2 = 9 ∨ (sampF l p k).2.2 = 11 := by
  unfold sampF; split <;> split <;> (try split) <;> simp
theorem sampF_ok {l : List UInt8} {p k : Nat} (h : (sampF l p k).2.2 = 0) : Smp (sampF l p k).1 ∧ p < (sampF l p k).2.1 ∧ (sampF l p k).2.1 ≤ l.length := by
  unfold sampF at h ⊢
  split <;> rename_i h1
  · rw [if_pos h1] at h
    split <;> rename_i h2
    · rw [if_pos h2] at h; simp at h
    · rw [if_neg h2] at h
      split <;> rename_i h3
      · rw [if_pos h3] at h; simp at h
      · have := readF_lt l (p + 20) 32
        exact ⟨unfF_smp (by omega), by simp only; omega, by simp only; omega⟩
  · rw [if_neg h1] at h
    split <;> rename_i h2
    · rw [if_pos h2] at h; simp at h
    · rw [if_neg h2] at h
      split <;> rename_i h3
      · rw [if_pos h3] at h; simp at h
      · exact ⟨unfF_smp (by omega), by simp only; omega, by simp only; omega⟩
/-- Samples from a place on: the samples, the place behind them, and a code. -/
def decF (l : List UInt8) (k : Nat) : Nat → Nat → List Int → List Int × Nat × Int
  | 0, p, acc => (acc, p, 0)
  | c + 1, p, acc => if (sampF l p k).2.2 = 0 then decF l k c (sampF l p k).2.1 (acc ++ [(sampF l p k).1]) else ([], 0, (sampF l p k).2.2)
theorem decF_go {l : List UInt8} {k c p : Nat} {acc : List Int} {x : Int} {q : Nat} (h : sampF l p k = (x, q, 0)) : decF l k (c + 1) p acc = decF l k c q (acc ++ [x]) := by
  simp only [decF]; rw [h]; rfl
theorem decF_no {l : List UInt8} {k c p : Nat} {acc : List Int} {x : Int} {q : Nat} {e : Int} (h : sampF l p k = (x, q, e)) (he : e ≠ 0) : decF l k (c + 1) p acc = ([], 0, e) := by
  simp only [decF]; rw [h]; exact if_neg he
theorem decF_bd {l : List UInt8} {k : Nat} : ∀ (c p : Nat) (acc : List Int), p ≤ l.length → (∀ x ∈ acc, Smp x) →
    (∀ x ∈ (decF l k c p acc).1, Smp x) ∧ (decF l k c p acc).2.1 ≤ l.length ∧ ((decF l k c p acc).2.2 = 0 → (decF l k c p acc).1.length = acc.length + c) ∧ ((decF l k c p acc).2.2 ≠ 0 → (decF l k c p acc).1 = [] ∧ (decF l k c p acc).2.1 = 0) ∧ ((decF l k c p acc).2.2 = 0 ∨ (decF l k c p acc).2.2 = 9 ∨ (decF l k c p acc).2.2 = 11)
  | 0, p, acc, hp, ha => ⟨ha, hp, fun _ => rfl, fun h => absurd rfl h, .inl rfl⟩
  | c + 1, p, acc, hp, ha => by
    have hc := sampF_code l p k
    by_cases h : (sampF l p k).2.2 = 0
    · obtain ⟨h1, h2, h3⟩ := sampF_ok h
      have e : decF l k (c + 1) p acc = decF l k c (sampF l p k).2.1 (acc ++ [(sampF l p k).1]) := by simp only [decF]; rw [if_pos h]
      rw [e]
      have := decF_bd (l := l) (k := k) c (sampF l p k).2.1 (acc ++ [(sampF l p k).1]) h3 (by
        intro x hx
        simp only [List.mem_append, List.mem_singleton] at hx
        rcases hx with hx | rfl
        · exact ha x hx
        · exact h1)
      refine ⟨this.1, this.2.1, fun h0 => ?_, this.2.2.2⟩
      rw [this.2.2.1 h0]; simp; omega
    · have e : decF l k (c + 1) p acc = ([], 0, (sampF l p k).2.2) := by simp only [decF]; rw [if_neg h]
      rw [e]
      exact ⟨by simp, by simp, fun h0 => absurd h0 h, fun _ => ⟨rfl, rfl⟩, hc⟩
/-- A byte of a text of bits. -/
theorem bA_bit {s : ByteArray} (h : Bits s.data.toList) {i : Nat} (hi : i < s.size) : (bA s i = 48 ∧ bitN s.data.toList i = 0) ∨ (bA s i = 49 ∧ bitN s.data.toList i = 1) := by
  have hl : i < s.data.toList.length := by rw [Array.length_toList]; exact hi
  have hg : s.data.toList[i]? = some (s.data.toList[i]) := List.getElem?_eq_getElem hl
  have := h (s.data.toList[i]) (List.getElem_mem _)
  unfold bA bitN
  rw [List.getD_eq_getElem?_getD, List.getD_eq_getElem?_getD, hg]
  simp only [Option.getD_some]
  rcases this with e | e <;> rw [e]
  · exact .inl ⟨rfl, rfl⟩
  · exact .inr ⟨rfl, rfl⟩
theorem len_data (s : ByteArray) : s.data.toList.length = s.size := Array.length_toList
/-- The bits behind the last code: less than a byte, and all 0. -/
def restB (s : ByteArray) : Bool := decide (s.size < 8) && s.data.toList.all (· == 48)
end Go.Proofs.YtpmflkoepnanoaaDoor
