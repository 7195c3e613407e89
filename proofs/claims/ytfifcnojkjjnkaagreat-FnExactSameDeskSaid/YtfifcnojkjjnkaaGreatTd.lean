/- Plain laws on decimal numbers: what is written is read back. No program is named here. -/
import Derived.Test.YtfifcnojkjjnkaaGreatLb
import Derived.Test.YtfifcnojkjjnkaaGreatPl
import Derived.Lib.ItoaNum
import Derived.Lib.ItoaLen
import Derived.Lib.ParseIntB
import Derived.Lib.ParseIntBCases
import Derived.Lib.ParseIntBTie
namespace Go.Proofs.YtfifcnojkjjnkaaGreat
open Go.Lib
/-- A number in decimal. -/
def decL (n : Int) : List UInt8 := itoa n
def decS (n : Int) : ByteArray := mkS (decL n)
def digB (b : UInt8) : Bool := decide (48 ≤ b.toNat ∧ b.toNat ≤ 57)
def numV (a : Nat) (l : List UInt8) : Nat := l.foldl (fun a b => a * 10 + (b.toNat - 48)) a
theorem numV_nil (a : Nat) : numV a [] = a := rfl
theorem numV_cons (a : Nat) (b : UInt8) (t : List UInt8) : numV a (b :: t) = numV (a * 10 + (b.toNat - 48)) t := by unfold numV; rw [List.foldl_cons]
theorem numV_append (x y : List UInt8) (a : Nat) : numV a (x ++ y) = numV (numV a x) y := List.foldl_append
theorem numV_one (a : Nat) (b : UInt8) : numV a [b] = a * 10 + (b.toNat - 48) := by rw [numV_cons, numV_nil]
theorem dig_of {d : Nat} (h : d < 10) : (UInt8.ofNat (48 + d)).toNat = 48 + d := UInt8.toNat_ofNat_of_lt' (by show 48 + d < 256; omega)
theorem decDigits_small {u : Nat} (h : u < 10) : decDigits u = [UInt8.ofNat (48 + u)] := by rw [decDigits, dif_pos h]
theorem decDigits_big {u : Nat} (h : ¬ u < 10) : decDigits u = decDigits (u / 10) ++ [UInt8.ofNat (48 + u % 10)] := by rw [decDigits, dif_neg h]
theorem dec_digits (u : Nat) : (∀ b ∈ decDigits u, digB b = true) ∧ numV 0 (decDigits u) = u ∧ decDigits u ≠ [] := by
  induction u using Nat.strongRecOn with
  | _ u ih =>
    by_cases h : u < 10
    · rw [decDigits_small h]
      refine ⟨?_, ?_, by simp⟩
      · intro b hb
        simp only [List.mem_singleton] at hb
        subst hb
        unfold digB
        rw [dig_of h]
        simp; omega
      · rw [numV_one, dig_of h]; omega
    · obtain ⟨h1, h2, h3⟩ := ih (u / 10) (by omega)
      rw [decDigits_big h]
      refine ⟨?_, ?_, by simp⟩
      · intro b hb
        rcases List.mem_append.1 hb with hb | hb
        · exact h1 b hb
        · simp only [List.mem_singleton] at hb
          subst hb
          unfold digB
          rw [dig_of (Nat.mod_lt _ (by omega))]
          have := Nat.mod_lt u (show 10 > 0 by omega)
          simp; omega
      · rw [numV_append, h2]
        rw [numV_one, dig_of (Nat.mod_lt _ (by omega))]
        omega
/-- The digits that are there already, when a number is taken apart from behind. -/
def preD (u : Nat) : List UInt8 := if u = 0 then [] else decDigits u
theorem preD_step {u : Nat} (h : u ≠ 0) : preD u = preD (u / 10) ++ [UInt8.ofNat (48 + u % 10)] := by
  unfold preD
  rw [if_neg h]
  by_cases h1 : u < 10
  · rw [decDigits_small h1, if_pos (by omega)]
    have : u % 10 = u := by omega
    rw [this]; rfl
  · rw [decDigits_big h1, if_neg (by omega)]
theorem preD_len (k : Nat) : ∀ u, u < 10 ^ k → (preD u).length ≤ k := by
  induction k with
  | zero => intro u h; have : u = 0 := by simpa using h
            subst this; simp [preD]
  | succ k ih =>
    intro u h
    by_cases h0 : u = 0
    · subst h0; simp [preD]
    · rw [preD_step h0, List.length_append]
      have := ih (u / 10) (by rw [Nat.pow_succ] at h; omega)
      simp; omega
theorem decL_zero : decL 0 = [48] := by
  unfold decL itoa
  rw [if_neg (by omega), decDigits_small (by simp)]
  rfl
theorem decL_pos {n : Int} (h : 0 < n) : decL n = preD n.natAbs := by
  unfold decL itoa preD
  rw [if_neg (by omega), if_neg (by omega)]
  congr 1; omega
theorem decL_neg {n : Int} (h : n < 0) : decL n = 45 :: preD n.natAbs := by
  unfold decL itoa preD
  rw [if_pos h, if_neg (by omega)]
theorem dig_not45 {b : UInt8} (h : digB b = true) : b.toNat ≠ 43 ∧ b.toNat ≠ 45 ∧ b ≠ 45 := by
  simp [digB] at h
  refine ⟨by omega, by omega, ?_⟩
  rintro rfl
  have : (45 : UInt8).toNat = 45 := rfl
  omega
/-- The text behind the sign. -/
def bareL (l : List UInt8) : List UInt8 := match l with
  | [] => []
  | b :: t => if b = 45 then t else b :: t
theorem bareL_dec (n : Int) : bareL (decL n) = decDigits n.natAbs := by
  unfold decL itoa
  split
  · rfl
  · have e : n.toNat = n.natAbs := by omega
    rw [e]
    have h := dec_digits n.natAbs
    cases hd : decDigits n.natAbs with
    | nil => exact absurd hd h.2.2
    | cons b t =>
      have := (dig_not45 (h.1 b (by simp [hd]))).2.2
      simp [bareL, this]
/-- The number with a decimal form of at most 18 digits. -/
def numF (l : List UInt8) : Option Int :=
  if 1 ≤ (bareL l).length ∧ (bareL l).length ≤ 18 ∧ (bareL l).all digB = true then
    let v : Int := if (bareL l).length < l.length then -(numV 0 (bareL l) : Int) else (numV 0 (bareL l) : Int)
    if decL v = l then some v else none
  else none
theorem numF_iff {l : List UInt8} {v : Int} : numF l = some v ↔ decL v = l ∧ (bareL l).length ≤ 18 := by
  constructor
  · intro h
    unfold numF at h
    split at h
    · next h1 =>
      generalize hg : (if (bareL l).length < l.length then -(numV 0 (bareL l) : Int) else (numV 0 (bareL l) : Int)) = u at h
      simp only [hg] at h
      by_cases h2 : decL u = l
      · rw [if_pos h2] at h
        obtain rfl := Option.some.inj h
        exact ⟨h2, h1.2.1⟩
      · rw [if_neg h2] at h; cases h
    · cases h
  · rintro ⟨rfl, h2⟩
    have hb := bareL_dec v
    obtain ⟨d1, d2, d3⟩ := dec_digits v.natAbs
    have h0 : 1 ≤ (bareL (decL v)).length := by rw [hb]; exact List.length_pos_iff.2 d3
    unfold numF
    rw [if_pos ⟨h0, h2, by rw [hb]; exact List.all_eq_true.2 d1⟩]
    have hv : (if (bareL (decL v)).length < (decL v).length then -(numV 0 (bareL (decL v)) : Int) else (numV 0 (bareL (decL v)) : Int)) = v := by
      rw [hb, d2]
      rcases Int.lt_or_le v 0 with hv | hv
      · rw [if_pos (by unfold decL itoa; rw [if_pos hv]; simp)]; omega
      · have e : v.toNat = v.natAbs := by omega
        rw [if_neg (by unfold decL itoa; rw [if_neg (by omega), e]; omega)]; omega
    simp only [hv, if_true]
theorem numV_ge (l : List UInt8) : ∀ a, a ≤ numV a l := by
  induction l with
  | nil => intro a; exact Nat.le_refl _
  | cons b t ih => intro a; have := ih (a * 10 + (b.toNat - 48)); rw [numV_cons]; omega
theorem parseUint10_ok (l : List UInt8) : ∀ a, (∀ b ∈ l, digB b = true) → numV a l < 18446744073709551616 → parseUint10 a l = .ok (numV a l) := by
  induction l with
  | nil => intro a _ _; rfl
  | cons b t ih =>
    intro a hd hv
    have hb : 48 ≤ b.toNat ∧ b.toNat ≤ 57 := by have := hd b (by simp); simpa [digB] using this
    have hg := numV_ge t (a * 10 + (b.toNat - 48))
    rw [numV_cons] at hv
    have hlt : a * 10 + (b.toNat - 48) < 18446744073709551616 := by omega
    rw [numV_cons]
    simp only [parseUint10]
    rw [if_pos hb, if_neg (by omega), if_neg (by omega)]
    exact ih _ (fun c hc => hd c (by simp [hc])) hv
/-- A number of 64 bits is read back from its decimal form. -/
theorem parse_dec {n : Int} (h0 : -9223372036854775808 ≤ n) (h1 : n ≤ 9223372036854775807) : parseIntB 64 (decL n) = .ok n := by
  rw [parseIntB_64]
  obtain ⟨d1, d2, d3⟩ := dec_digits n.natAbs
  have hm : parseMag (decDigits n.natAbs) = .ok n.natAbs := by
    unfold parseMag
    rw [if_neg d3, parseUint10_ok _ 0 d1 (by rw [d2]; omega), d2]
  unfold decL itoa
  split
  · next h =>
    simp only [atoiAll]
    have e45 : (45 : UInt8).toNat = 45 := rfl
    rw [e45]
    simp only [Nat.reduceEqDiff, or_true, if_true, hm, not_true_eq_false, false_and, if_false, true_and]
    rw [if_neg (by omega)]
    congr 1; omega
  · next h =>
    have e : n.toNat = n.natAbs := by omega
    rw [e]
    cases hd : decDigits n.natAbs with
    | nil => exact absurd hd d3
    | cons b t =>
      have hb := dig_not45 (d1 b (by simp [hd]))
      rw [hd] at hm
      simp only [atoiAll, hb.1, hb.2.1, or_self, if_false, hm, not_false_eq_true, true_and, false_and]
      rw [if_neg (by omega)]
      congr 1; omega
theorem length_decL {n : Int} (h0 : -9223372036854775808 ≤ n) (h1 : n ≤ 9223372036854775807) : (decL n).length ≤ 21 := itoa_length_le n h0 h1
theorem decL_inj {a b : Int} (h : decL a = decL b) : a = b := by
  have ha := bareL_dec a
  have hb := bareL_dec b
  rw [h] at ha
  have e : a.natAbs = b.natAbs := by
    have := congrArg (numV 0) (ha.symm.trans hb)
    rwa [(dec_digits _).2.1, (dec_digits _).2.1] at this
  rcases Int.lt_or_le a 0 with h1 | h1 <;> rcases Int.lt_or_le b 0 with h2 | h2
  · omega
  · have := congrArg List.length h
    unfold decL itoa at this
    rw [if_pos h1, if_neg (by omega), show b.toNat = b.natAbs by omega, e] at this
    simp at this
  · have := congrArg List.length h
    unfold decL itoa at this
    rw [if_neg (by omega), if_pos h2, show a.toNat = a.natAbs by omega, e] at this
    simp at this
  · omega
theorem decL_plain (n : Int) : ∀ b ∈ decL n, b = 45 ∨ digB b = true := by
  intro b hb
  unfold decL itoa at hb
  split at hb
  · rcases List.mem_cons.1 hb with rfl | hb
    · exact .inl rfl
    · exact .inr ((dec_digits _).1 b hb)
  · exact .inr ((dec_digits _).1 b hb)
end Go.Proofs.YtfifcnojkjjnkaaGreat
