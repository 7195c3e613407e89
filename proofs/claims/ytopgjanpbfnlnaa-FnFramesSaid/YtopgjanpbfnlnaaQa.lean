/- Plain: differences are undone, codes are decoded. -/
import Derived.Test.YtopgjanpbfnlnaaHa
import Derived.Test.YtopgjanpbfnlnaaHc
namespace Go.Proofs.Ytopgjanpbfnlnaa
open Go.RowKit
theorem getD_lessL {xs : List Int} {k : Nat} (h : k < xs.length) : (lessL xs).getD k 0 = lessD xs k := by
  rw [List.getD_eq_getElem?_getD, lessL_at h]; rfl
theorem sumN_lessL {xs : List Int} (hs : ∀ x ∈ xs, Smp x) : ∀ k, k ≤ xs.length → sumN (lessL xs) k = if k = 0 then 0 else xs.getD (k - 1) 0
  | 0, _ => rfl
  | k + 1, hk => by
    have h1 := sumN_lessL hs k (by omega)
    have hx : Smp (xs.getD k 0) := by
      rw [List.getD_eq_getElem?_getD, List.getElem?_eq_getElem (show k < xs.length by omega)]
      exact hs _ (List.getElem_mem _)
    show wrp (sumN (lessL xs) k + (lessL xs).getD k 0) = _
    have e : (if k + 1 = 0 then (0 : Int) else xs.getD (k + 1 - 1) 0) = xs.getD k 0 := by simp
    rw [getD_lessL (by omega), h1, e]
    unfold lessD
    generalize (if k = 0 then (0 : Int) else xs.getD (k - 1) 0) = p
    generalize xs.getD k 0 = x at *
    unfold Smp at hx
    unfold wrp
    omega
theorem sumL_lessL {xs : List Int} (hs : ∀ x ∈ xs, Smp x) : sumL (lessL xs) = xs := by
  apply List.ext_getElem?
  intro k
  by_cases hk : k < xs.length
  · rw [sumL_at (by rw [length_lessL]; exact hk), sumN_lessL hs (k + 1) (by omega), if_neg (by omega), Nat.add_sub_cancel, List.getD_eq_getElem?_getD, List.getElem?_eq_getElem hk]
    rfl
  · rw [List.getElem?_eq_none (by rw [length_sumL, length_lessL]; omega), List.getElem?_eq_none (by omega)]
theorem predictF_less : ∀ (m : Nat) (xs : List Int), predictF m (lessL xs) = lessL (predictF m xs)
  | 0, _ => rfl
  | m + 1, xs => by simp only [predictF]; rw [predictF_less m (lessL xs)]
theorem restF_predictF : ∀ (m : Nat) (xs : List Int), (∀ x ∈ xs, Smp x) → restF m (predictF m xs) = xs
  | 0, _, _ => rfl
  | m + 1, xs, hs => by
    simp only [restF, predictF]
    rw [predictF_less, sumL_lessL (smp_predictF m xs hs)]
    exact restF_predictF m xs hs
theorem unfF_foldF {x : Int} (h : Smp x) : unfF (foldF x).toNat = x := by
  unfold Smp at h
  unfold unfF foldF
  split <;> split <;> omega
theorem bitN_app (a l : List UInt8) (i : Nat) : bitN (a ++ l) (a.length + i) = bitN l i := by
  unfold bitN
  rw [List.getD_eq_getElem?_getD, List.getD_eq_getElem?_getD, List.getElem?_append_right (by omega), Nat.add_sub_cancel_left]
theorem onesF_app (a l : List UInt8) : ∀ f i, onesF (a ++ l) f (a.length + i) = onesF l f i
  | 0, _ => rfl
  | f + 1, i => by
    simp only [onesF]
    rw [bitN_app, Nat.add_assoc, onesF_app a l f (i + 1)]
theorem readF_app (a l : List UInt8) (i : Nat) : ∀ c, readF (a ++ l) (a.length + i) c = readF l i c
  | 0 => rfl
  | c + 1 => by
    simp only [readF]
    rw [readF_app a l i c, Nat.add_assoc, bitN_app]
theorem onesF_cons (l : List UInt8) (f : Nat) : onesF (49 :: l) (f + 1) 0 = onesF l f 0 + 1 := by
  have h := onesF_app [49] l f 0
  simp only [onesF]
  rw [if_pos (by rfl)]
  rw [← h]; rfl
theorem onesF_rep (r : List UInt8) : ∀ q f, q < f → onesF (List.replicate q 49 ++ 48 :: r) f 0 = q
  | 0, f, h => by
    obtain ⟨g, rfl⟩ : ∃ g, f = g + 1 := ⟨f - 1, by omega⟩
    simp only [List.replicate, List.nil_append, onesF]
    exact if_neg (by show ¬ bitN (48 :: r) 0 = 1; simp [bitN])
  | q + 1, f, h => by
    obtain ⟨g, rfl⟩ : ∃ g, f = g + 1 := ⟨f - 1, by omega⟩
    rw [List.replicate_succ, List.cons_append, onesF_cons, onesF_rep r q g (by omega)]
theorem onesF_full (r : List UInt8) : ∀ f, onesF (List.replicate f 49 ++ r) f 0 = f
  | 0 => rfl
  | f + 1 => by rw [List.replicate_succ, List.cons_append, onesF_cons, onesF_full r f]
theorem readF_cons (x : UInt8) (l : List UInt8) : ∀ c, readF (x :: l) 0 (c + 1) = bitN (x :: l) 0 * 2 ^ c + readF l 0 c
  | 0 => by simp [readF]
  | c + 1 => by
    have h := bitN_app [x] l c
    have e : readF (x :: l) 0 (c + 1 + 1) = 2 * readF (x :: l) 0 (c + 1) + bitN (x :: l) (0 + (c + 1)) := rfl
    rw [e, readF_cons x l c]
    have e2 : bitN (x :: l) (0 + (c + 1)) = bitN l c := by rw [← h]; congr 1; simp; omega
    rw [e2]
    show _ = bitN (x :: l) 0 * 2 ^ (c + 1) + (2 * readF l 0 c + bitN l (0 + c))
    have e3 : bitN (x :: l) 0 * 2 ^ (c + 1) = 2 * (bitN (x :: l) 0 * 2 ^ c) := by rw [Nat.pow_succ, ← Nat.mul_assoc, Nat.mul_comm]
    rw [Nat.zero_add, e3]
    omega
theorem bitN_bitC (n : Nat) (i : Nat) (l : List UInt8) : bitN (bitC (n : Int) i :: l) 0 = n / 2 ^ i % 2 := by
  have h : ((n : Int) / 2 ^ i % 2).toNat = n / 2 ^ i % 2 := by
    have e : (n : Int) / 2 ^ i % 2 = ((n / 2 ^ i % 2 : Nat) : Int) := by simp
    rw [e]; rfl
  unfold bitN bitC
  rw [h]
  simp only [List.getD_cons_zero]
  have : n / 2 ^ i % 2 = 0 ∨ n / 2 ^ i % 2 = 1 := by omega
  rcases this with h | h <;> rw [h] <;> decide
theorem readF_digL (n : Nat) (b : List UInt8) : ∀ c, readF (digL (n : Int) c ++ b) 0 c = n % 2 ^ c
  | 0 => by simp [readF, Nat.mod_one]
  | c + 1 => by
    simp only [digL, List.cons_append]
    rw [readF_cons, readF_digL n b c, bitN_bitC]
    have h1 := Nat.mod_mul (x := n) (a := 2 ^ c) (b := 2)
    rw [Nat.pow_succ, h1]
    rw [Nat.mul_comm (2 ^ c)]
    omega
theorem foldF_nat {x : Int} (h : Smp x) : foldF x = ((foldF x).toNat : Int) := by have := foldF_bd h; omega
theorem quoF_nat {x : Int} (k : Nat) (h : Smp x) : quoF x k = (((foldF x).toNat / 2 ^ k : Nat) : Int) := by
  unfold quoF; rw [foldF_nat h]; simp
theorem samp_okY {l : List UInt8} {p k : Nat} (h : onesF l 20 p = 20) (h2 : ¬ l.length < p + 52) (h3 : ¬ readF l (p + 20) 32 / 2 ^ k < 20) : sampF l p k = (unfF (readF l (p + 20) 32), p + 52, 0) := by unfold sampF; rw [if_pos h, if_neg h2, if_neg h3]
theorem samp_okX {l : List UInt8} {p k q : Nat} (h : q < 20) (hq : onesF l 20 p = q) (h2 : ¬ l.length < p + q + 1 + k) (h3 : ¬ 4294967295 < q * 2 ^ k + readF l (p + q + 1) k) : sampF l p k = (unfF (q * 2 ^ k + readF l (p + q + 1) k), p + q + 1 + k, 0) := by subst hq; unfold sampF; rw [if_neg (by omega), if_neg h2, if_neg h3]
theorem samp_cutY {l : List UInt8} {p k : Nat} (h : onesF l 20 p = 20) (h2 : l.length < p + 52) : sampF l p k = (0, 0, 11) := by unfold sampF; rw [if_pos h, if_pos h2]
theorem samp_badY {l : List UInt8} {p k : Nat} (h : onesF l 20 p = 20) (h2 : ¬ l.length < p + 52) (h3 : readF l (p + 20) 32 / 2 ^ k < 20) : sampF l p k = (0, 0, 9) := by unfold sampF; rw [if_pos h, if_neg h2, if_pos h3]
theorem samp_cutX {l : List UInt8} {p k q : Nat} (h : q < 20) (hq : onesF l 20 p = q) (h2 : l.length < p + q + 1 + k) : sampF l p k = (0, 0, 11) := by subst hq; unfold sampF; rw [if_neg (by omega), if_pos h2]
theorem samp_badX {l : List UInt8} {p k q : Nat} (h : q < 20) (hq : onesF l 20 p = q) (h2 : ¬ l.length < p + q + 1 + k) (h3 : 4294967295 < q * 2 ^ k + readF l (p + q + 1) k) : sampF l p k = (0, 0, 9) := by subst hq; unfold sampF; rw [if_neg (by omega), if_neg h2, if_pos h3]
/-- A code is read back. -/
theorem sampF_enc {x : Int} {k : Nat} (b : List UInt8) (h : Smp x) : sampF (encC x k ++ b) 0 k = (x, (encC x k).length, 0) := by
  have hb := foldF_bd h
  have hn := foldF_nat h
  have hq := quoF_nat k h
  have hu := unfF_foldF h
  have hl := length_encC (k := k) h
  generalize (foldF x).toNat = n at *
  have hle : n ≤ 4294967295 := by omega
  by_cases hlt : quoF x k < 20
  · have hq2 : (quoF x k).toNat = n / 2 ^ k := by rw [hq]; rfl
    have he : encC x k = List.replicate (n / 2 ^ k) 49 ++ (48 :: digL (n : Int) k) := by unfold encC; rw [if_pos hlt, hq2, hn]
    have hq3 : n / 2 ^ k < 20 := by omega
    have ho : onesF (encC x k ++ b) 20 0 = n / 2 ^ k := by rw [he, List.append_assoc]; exact onesF_rep _ _ _ hq3
    have hr : readF (encC x k ++ b) (n / 2 ^ k + 1) k = n % 2 ^ k := by
      have e : encC x k ++ b = (List.replicate (n / 2 ^ k) 49 ++ [48]) ++ (digL (n : Int) k ++ b) := by rw [he]; simp
      have := readF_app (List.replicate (n / 2 ^ k) 49 ++ [48]) (digL (n : Int) k ++ b) 0 k
      rw [← e, readF_digL] at this
      rw [← this]
      simp
    have hlen : (encC x k).length = n / 2 ^ k + 1 + k := by rw [he]; simp [length_digL]; omega
    have hdm : n / 2 ^ k * 2 ^ k + n % 2 ^ k = n := Nat.div_add_mod' n (2 ^ k)
    have hs := samp_okX (l := encC x k ++ b) (p := 0) (k := k) hq3 ho (by rw [List.length_append, hlen]; omega) (by rw [Nat.zero_add, hr, hdm]; omega)
    rw [hs, Nat.zero_add, hr, hdm, hu, hlen]
  · have he : encC x k = List.replicate 20 49 ++ digL (n : Int) 32 := by unfold encC; rw [if_neg hlt, hn]
    have hq3 : ¬ n / 2 ^ k < 20 := by omega
    have ho : onesF (encC x k ++ b) 20 0 = 20 := by rw [he, List.append_assoc]; exact onesF_full _ _
    have hr : readF (encC x k ++ b) (0 + 20) 32 = n := by
      have := readF_app (List.replicate 20 49) (digL (n : Int) 32 ++ b) 0 32
      rw [← List.append_assoc, ← he, readF_digL, List.length_replicate] at this
      rw [Nat.zero_add]
      rw [Nat.add_zero] at this
      rw [this, Nat.mod_eq_of_lt (by omega)]
    have hlen : (encC x k).length = 52 := by rw [he]; simp [length_digL]
    have hs := samp_okY (l := encC x k ++ b) (p := 0) (k := k) ho (by rw [List.length_append, hlen]; omega) (by rw [hr]; exact hq3)
    rw [hs, hr, hu, hlen]
end Go.Proofs.Ytopgjanpbfnlnaa
