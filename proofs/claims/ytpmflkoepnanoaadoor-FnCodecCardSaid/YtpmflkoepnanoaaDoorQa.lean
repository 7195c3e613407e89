/- Plain: differences are undone, codes are decoded. Plain: a frame is decoded without loss. Plain: a change of one byte is noticed. -/
import Derived.Test.YtpmflkoepnanoaaDoorHa
import Derived.Test.YtpmflkoepnanoaaDoorHc
import Derived.Test.YtpmflkoepnanoaaDoorIg
import Derived.Test.YtpmflkoepnanoaaDoorFa
namespace Go.Proofs.YtpmflkoepnanoaaDoor
section
open Go.RowKit
theorem getD_lessL {xs : List Int} {k : Nat} (h : k < xs.length) : (lessL xs).getD k 0 = lessD xs k := by
  rw [List.getD_eq_getElem?_getD, lessL_at h]; rfl
theorem sumN_lessL {xs : List Int} (hs : ∀ x ∈ xs, Smp x) : ∀ k, k ≤ xs.length → sumN (lessL xs) k = if k = 0 then 0 else xs.getD (k - 1) 0
  | 0, _ => rfl
  | k + 1, hk => by
    have h1 := sumN_lessL hs k (by omega)
    have hx : Smp (xs.getD k 0) := by
      rw [List.getD_eq_getElem?_getD, List.getElem?_eq_getElem (show k < xs.length by omega)]
      exact hs _ (List.getElem_mem _)
    show wrp (sumN (lessL xs) k + (lessL xs).getD k 0) = _
    have e : (if k + 1 = 0 then (0 : Int) else xs.getD (k + 1 - 1) 0) = xs.getD k 0 := by simp
    rw [getD_lessL (by omega), h1, e]
    unfold lessD
    generalize (if k = 0 then (0 : Int) else xs.getD (k - 1) 0) = p
    generalize xs.getD k 0 = x at *
    unfold Smp at hx
    unfold wrp
    omega
theorem sumL_lessL {xs : List Int} (hs : ∀ x ∈ xs, Smp x) : sumL (lessL xs) = xs := by
  apply List.ext_getElem?
  intro k
  by_cases hk : k < xs.length
  · rw [sumL_at (by rw [length_lessL]; exact hk), sumN_lessL hs (k + 1) (by omega), if_neg (by omega), Nat.add_sub_cancel, List.getD_eq_getElem?_getD, List.getElem?_eq_getElem hk]
    rfl
  · rw [List.getElem?_eq_none (by rw [length_sumL, length_lessL]; omega), List.getElem?_eq_none (by omega)]
theorem predictF_less : ∀ (m : Nat) (xs : List Int), predictF m (lessL xs) = lessL (predictF m xs)
  | 0, _ => rfl
  | m + 1, xs => by simp only [predictF]; rw [predictF_less m (lessL xs)]
theorem restF_predictF : ∀ (m : Nat) (xs : List Int), (∀ x ∈ xs, Smp x) → restF m (predictF m xs) = xs
  | 0, _, _ => rfl
  | m + 1, xs, hs => by
    simp only [restF, predictF]
    rw [predictF_less, sumL_lessL (smp_predictF m xs hs)]
    exact restF_predictF m xs hs
theorem unfF_foldF {x : Int} (h : Smp x) : unfF (foldF x).toNat = x := by
  unfold Smp at h
  unfold unfF foldF
  split <;> split <;> omega
theorem bitN_app (a l : List UInt8) (i : Nat) : bitN (a ++ l) (a.length + i) = bitN l i := by
  unfold bitN
  rw [List.getD_eq_getElem?_getD, List.getD_eq_getElem?_getD, List.getElem?_append_right (by omega), Nat.add_sub_cancel_left]
theorem onesF_app (a l : List UInt8) : ∀ f i, onesF (a ++ l) f (a.length + i) = onesF l f i
  | 0, _ => rfl
  | f + 1, i => by
    simp only [onesF]
    rw [bitN_app, Nat.add_assoc, onesF_app a l f (i + 1)]
theorem readF_app (a l : List UInt8) (i : Nat) : ∀ c, readF (a ++ l) (a.length + i) c = readF l i c
  | 0 => rfl
  | c + 1 => by
    simp only [readF]
    rw [readF_app a l i c, Nat.add_assoc, bitN_app]
theorem onesF_cons (l : List UInt8) (f : Nat) : onesF (49 :: l) (f + 1) 0 = onesF l f 0 + 1 := by
  have h := onesF_app [49] l f 0
  simp only [onesF]
  rw [if_pos (by rfl)]
  rw [← h]; rfl
theorem onesF_rep (r : List UInt8) : ∀ q f, q < f → onesF (List.replicate q 49 ++ 48 :: r) f 0 = q
  | 0, f, h => by
    obtain ⟨g, rfl⟩ : ∃ g, f = g + 1 := ⟨f - 1, by omega⟩
    simp only [List.replicate, List.nil_append, onesF]
    exact if_neg (by show ¬ bitN (48 :: r) 0 = 1; simp [bitN])
  | q + 1, f, h => by
    obtain ⟨g, rfl⟩ : ∃ g, f = g + 1 := ⟨f - 1, by omega⟩
    rw [List.replicate_succ, List.cons_append, onesF_cons, onesF_rep r q g (by omega)]
theorem onesF_full (r : List UInt8) : ∀ f, onesF (List.replicate f 49 ++ r) f 0 = f
  | 0 => rfl
  | f + 1 => by rw [List.replicate_succ, List.cons_append, onesF_cons, onesF_full r f]
theorem readF_cons (x : UInt8) (l : List UInt8) : ∀ c, readF (x :: l) 0 (c + 1) = bitN (x :: l) 0 * 2 ^ c + readF l 0 c
  | 0 => by simp [readF]
  | c + 1 => by
    have h := bitN_app [x] l c
    have e : readF (x :: l) 0 (c + 1 + 1) = 2 * readF (x :: l) 0 (c + 1) + bitN (x :: l) (0 + (c + 1)) := rfl
    rw [e, readF_cons x l c]
    have e2 : bitN (x :: l) (0 + (c + 1)) = bitN l c := by rw [← h]; congr 1; simp; omega
    rw [e2]
    show _ = bitN (x :: l) 0 * 2 ^ (c + 1) + (2 * readF l 0 c + bitN l (0 + c))
    have e3 : bitN (x :: l) 0 * 2 ^ (c + 1) = 2 * (bitN (x :: l) 0 * 2 ^ c) := by rw [Nat.pow_succ, ← Nat.mul_assoc, Nat.mul_comm]
    rw [Nat.zero_add, e3]
    omega
theorem bitN_bitC (n : Nat) (i : Nat) (l : List UInt8) : bitN (bitC (n : Int) i :: l) 0 = n / 2 ^ i % 2 := by
  have h : ((n : Int) / 2 ^ i % 2).toNat = n / 2 ^ i % 2 := by
    have e : (n : Int) / 2 ^ i % 2 = ((n / 2 ^ i % 2 : Nat) : Int) := by simp
    rw [e]; rfl
  unfold bitN bitC
  rw [h]
  simp only [List.getD_cons_zero]
  have : n / 2 ^ i % 2 = 0 ∨ n / 2 ^ i % 2 = 1 := by omega
  rcases this with h | h <;> rw [h] <;> decide
theorem readF_digL (n : Nat) (b : List UInt8) : ∀ c, readF (digL (n : Int) c ++ b) 0 c = n % 2 ^ c
  | 0 => by simp [readF, Nat.mod_one]
  | c + 1 => by
    simp only [digL, List.cons_append]
    rw [readF_cons, readF_digL n b c, bitN_bitC]
    have h1 := Nat.mod_mul (x := n) (a := 2 ^ c) (b := 2)
    rw [Nat.pow_succ, h1]
    rw [Nat.mul_comm (2 ^ c)]
    omega
theorem foldF_nat {x : Int} (h : Smp x) : foldF x = ((foldF x).toNat : Int) := by have := foldF_bd h; omega
theorem quoF_nat {x : Int} (k : Nat) (h : Smp x) : quoF x k = (((foldF x).toNat / 2 ^ k : Nat) : Int) := by
  unfold quoF; rw [foldF_nat h]; simp
theorem samp_okY {l : List UInt8} {p k : Nat} (h : onesF l 20 p = 20) (h2 : ¬ l.length < p + 52) (h3 : ¬ readF l (p + 20) 32 / 2 ^ k < 20) : sampF l p k = (unfF (readF l (p + 20) 32), p + 52, 0) := by unfold sampF; rw [if_pos h, if_neg h2, if_neg h3]
theorem samp_okX {l : List UInt8} {p k q : Nat} (h : q < 20) (hq : onesF l 20 p = q) (h2 : ¬ l.length < p + q + 1 + k) (h3 : ¬ 4294967295 < q * 2 ^ k + readF l (p + q + 1) k) : sampF l p k = (unfF (q * 2 ^ k + readF l (p + q + 1) k), p + q + 1 + k, 0) := by subst hq; unfold sampF; rw [if_neg (by omega), if_neg h2, if_neg h3]
theorem samp_cutY {l : List UInt8} {p k : Nat} (h : onesF l 20 p = 20) (h2 : l.length < p + 52) : sampF l p k = (0, 0, 11) := by unfold sampF; rw [if_pos h, if_pos h2]
theorem samp_badY {l : List UInt8} {p k : Nat} (h : onesF l 20 p = 20) (h2 : ¬ l.length < p + 52) (h3 : readF l (p + 20) 32 / 2 ^ k < 20) : sampF l p k = (0, 0, 9) := by unfold sampF; rw [if_pos h, if_neg h2, if_pos h3]
theorem samp_cutX {l : List UInt8} {p k q : Nat} (h : q < 20) (hq : onesF l 20 p = q) (h2 : l.length < p + q + 1 + k) : sampF l p k = (0, 0, 11) := by subst hq; unfold sampF; rw [if_neg (by omega), if_pos h2]
theorem samp_badX {l : List UInt8} {p k q : Nat} (h : q < 20) (hq : onesF l 20 p = q) (h2 : ¬ l.length < p + q + 1 + k) (h3 : 4294967295 < q * 2 ^ k + readF l (p + q + 1) k) : sampF l p k = (0, 0, 9) := by subst hq; unfold sampF; rw [if_neg (by omega), if_neg h2, if_pos h3]
/-- A code is read back. -/
theorem sampF_enc {x : Int} {k : Nat} (b : List UInt8) (h : Smp x) : sampF (encC x k ++ b) 0 k = (x, (encC x k).length, 0) := by
  have hb := foldF_bd h
  have hn := foldF_nat h
  have hq := quoF_nat k h
  have hu := unfF_foldF h
  have hl := length_encC (k := k) h
  generalize (foldF x).toNat = n at *
  have hle : n ≤ 4294967295 := by omega
  by_cases hlt : quoF x k < 20
  · have hq2 : (quoF x k).toNat = n / 2 ^ k := by rw [hq]; rfl
    have he : encC x k = List.replicate (n / 2 ^ k) 49 ++ (48 :: digL (n : Int) k) := by unfold encC; rw [if_pos hlt, hq2, hn]
    have hq3 : n / 2 ^ k < 20 := by omega
    have ho : onesF (encC x k ++ b) 20 0 = n / 2 ^ k := by rw [he, List.append_assoc]; exact onesF_rep _ _ _ hq3
    have hr : readF (encC x k ++ b) (n / 2 ^ k + 1) k = n % 2 ^ k := by
      have e : encC x k ++ b = (List.replicate (n / 2 ^ k) 49 ++ [48]) ++ (digL (n : Int) k ++ b) := by rw [he]; simp
      have := readF_app (List.replicate (n / 2 ^ k) 49 ++ [48]) (digL (n : Int) k ++ b) 0 k
      rw [← e, readF_digL] at this
      rw [← this]
      simp
    have hlen : (encC x k).length = n / 2 ^ k + 1 + k := by rw [he]; simp [length_digL]; omega
    have hdm : n / 2 ^ k * 2 ^ k + n % 2 ^ k = n := Nat.div_add_mod' n (2 ^ k)
    have hs := samp_okX (l := encC x k ++ b) (p := 0) (k := k) hq3 ho (by rw [List.length_append, hlen]; omega) (by rw [Nat.zero_add, hr, hdm]; omega)
    rw [hs, Nat.zero_add, hr, hdm, hu, hlen]
  · have he : encC x k = List.replicate 20 49 ++ digL (n : Int) 32 := by unfold encC; rw [if_neg hlt, hn]
    have hq3 : ¬ n / 2 ^ k < 20 := by omega
    have ho : onesF (encC x k ++ b) 20 0 = 20 := by rw [he, List.append_assoc]; exact onesF_full _ _
    have hr : readF (encC x k ++ b) (0 + 20) 32 = n := by
      have := readF_app (List.replicate 20 49) (digL (n : Int) 32 ++ b) 0 32
      rw [← List.append_assoc, ← he, readF_digL, List.length_replicate] at this
      rw [Nat.zero_add]
      rw [Nat.add_zero] at this
      rw [this, Nat.mod_eq_of_lt (by omega)]
    have hlen : (encC x k).length = 52 := by rw [he]; simp [length_digL]
    have hs := samp_okY (l := encC x k ++ b) (p := 0) (k := k) ho (by rw [List.length_append, hlen]; omega) (by rw [hr]; exact hq3)
    rw [hs, hr, hu, hlen]
end
section
open Go.RowKit
theorem sampF_app {a l : List UInt8} {k p : Nat} {x : Int} (h : sampF l 0 k = (x, p, 0)) : sampF (a ++ l) a.length k = (x, a.length + p, 0) := by
  have ho := onesF_app a l 20 0
  rw [Nat.add_zero] at ho
  by_cases h20 : onesF l 20 0 = 20
  · have hr := readF_app a l 20 32
    by_cases h1 : l.length < 0 + 52
    · rw [samp_cutY h20 h1] at h; simp at h
    · by_cases h2 : readF l (0 + 20) 32 / 2 ^ k < 20
      · rw [samp_badY h20 h1 h2] at h; simp at h
      · rw [samp_okY h20 h1 h2] at h
        injection h with e1 e2
        injection e2 with e2 _
        rw [Nat.zero_add] at e1 e2 h1 h2
        have := samp_okY (l := a ++ l) (p := a.length) (k := k) (by rw [ho, h20]) (by rw [List.length_append]; omega) (by rw [hr]; exact h2)
        rw [this, hr, e1, ← e2]
  · have hle := onesF_le l 20 0
    obtain ⟨q, hq⟩ : ∃ q, onesF l 20 0 = q := ⟨_, rfl⟩
    rw [hq] at h20 hle ho
    have hr := readF_app a l (q + 1) k
    rw [← Nat.add_assoc] at hr
    by_cases h1 : l.length < 0 + q + 1 + k
    · rw [samp_cutX (by omega) hq h1] at h; simp at h
    · by_cases h2 : 4294967295 < q * 2 ^ k + readF l (0 + q + 1) k
      · rw [samp_badX (by omega) hq h1 h2] at h; simp at h
      · rw [samp_okX (by omega) hq h1 h2] at h
        injection h with e1 e2
        injection e2 with e2 _
        rw [Nat.zero_add] at e1 e2 h1 h2
        have := samp_okX (l := a ++ l) (p := a.length) (k := k) (show q < 20 by omega) ho (by rw [List.length_append]; omega) (by rw [hr]; exact h2)
        rw [this, hr, e1, ← e2]
        congr 2
        omega
theorem decF_enc {k : Nat} (b : List UInt8) : ∀ (xs : List Int) (a : List UInt8) (acc : List Int), (∀ x ∈ xs, Smp x) →
    decF (a ++ (encL xs k ++ b)) k xs.length a.length acc = (acc ++ xs, a.length + (encL xs k).length, 0)
  | [], a, acc, _ => by simp [decF, encL]
  | x :: xs, a, acc, h => by
    have h1 := sampF_enc (k := k) (encL xs k ++ b) (h x (by simp))
    have h2 := sampF_app (a := a) h1
    rw [← List.append_assoc (encC x k)] at h2
    have h3 := decF_enc (k := k) b xs (a ++ encC x k) (acc ++ [x]) (fun y hy => h y (by simp [hy]))
    rw [List.length_cons]
    show decF (a ++ ((encC x k ++ encL xs k) ++ b)) k (xs.length + 1) a.length acc = _
    rw [decF_go h2]
    rw [List.length_append] at h3
    rw [show a ++ ((encC x k ++ encL xs k) ++ b) = a ++ encC x k ++ (encL xs k ++ b) by simp, h3]
    simp [encL, List.append_assoc]
    omega
theorem bit_char (n : Nat) (i b : Nat) (h : n / 2 ^ i % 2 = b) : bitC (n : Int) i = UInt8.ofNat (48 + b) := by
  have e : (n : Int) / 2 ^ i % 2 = ((n / 2 ^ i % 2 : Nat) : Int) := by simp
  unfold bitC
  rw [e, h]; rfl
theorem dig_pk (bits : List UInt8) (m : Nat) : digL (pkB bits m 8 : Nat) 8 = (List.range 8).map (fun c => UInt8.ofNat (48 + bitN bits (8 * m + c))) := by
  have h0 := bitN_le bits (8 * m + 0); have h1 := bitN_le bits (8 * m + 1); have h2 := bitN_le bits (8 * m + 2); have h3 := bitN_le bits (8 * m + 3)
  have h4 := bitN_le bits (8 * m + 4); have h5 := bitN_le bits (8 * m + 5); have h6 := bitN_le bits (8 * m + 6); have h7 := bitN_le bits (8 * m + 7)
  have hp : pkB bits m 8 = 2 * (2 * (2 * (2 * (2 * (2 * (2 * (2 * 0 + bitN bits (8 * m + 0)) + bitN bits (8 * m + 1)) + bitN bits (8 * m + 2)) + bitN bits (8 * m + 3)) + bitN bits (8 * m + 4)) + bitN bits (8 * m + 5)) + bitN bits (8 * m + 6)) + bitN bits (8 * m + 7) := rfl
  generalize pkB bits m 8 = n at *
  have e : (List.range 8).map (fun c => UInt8.ofNat (48 + bitN bits (8 * m + c))) = [UInt8.ofNat (48 + bitN bits (8 * m + 0)), UInt8.ofNat (48 + bitN bits (8 * m + 1)), UInt8.ofNat (48 + bitN bits (8 * m + 2)), UInt8.ofNat (48 + bitN bits (8 * m + 3)), UInt8.ofNat (48 + bitN bits (8 * m + 4)), UInt8.ofNat (48 + bitN bits (8 * m + 5)), UInt8.ofNat (48 + bitN bits (8 * m + 6)), UInt8.ofNat (48 + bitN bits (8 * m + 7))] := rfl
  rw [e]
  generalize bitN bits (8 * m + 0) = b0 at *
  generalize bitN bits (8 * m + 1) = b1 at *
  generalize bitN bits (8 * m + 2) = b2 at *
  generalize bitN bits (8 * m + 3) = b3 at *
  generalize bitN bits (8 * m + 4) = b4 at *
  generalize bitN bits (8 * m + 5) = b5 at *
  generalize bitN bits (8 * m + 6) = b6 at *
  generalize bitN bits (8 * m + 7) = b7 at *
  show [bitC (n : Int) 7, bitC (n : Int) 6, bitC (n : Int) 5, bitC (n : Int) 4, bitC (n : Int) 3, bitC (n : Int) 2, bitC (n : Int) 1, bitC (n : Int) 0] = _
  rw [bit_char n 7 b0 (by omega), bit_char n 6 b1 (by omega), bit_char n 5 b2 (by omega), bit_char n 4 b3 (by omega), bit_char n 3 b4 (by omega), bit_char n 2 b5 (by omega), bit_char n 1 b6 (by omega), bit_char n 0 b7 (by omega)]
theorem unpk_to (bits : List UInt8) (s : ByteArray) : ∀ j, (∀ m, m < j → bA s m = pkB bits m 8) → unpkTo s j = (List.range (8 * j)).map (fun c => UInt8.ofNat (48 + bitN bits c))
  | 0, _ => rfl
  | j + 1, h => by
    simp only [unpkTo]
    rw [unpk_to bits s j (fun m hm => h m (by omega)), h j (by omega), dig_pk, show 8 * (j + 1) = 8 * j + 8 by omega, List.range_add, List.map_append, List.map_map]
    rfl
theorem bits_all {l : List UInt8} (h : Bits l) (n : Nat) : (List.range (l.length + n)).map (fun c => UInt8.ofNat (48 + bitN l c)) = l ++ List.replicate n 48 := by
  apply List.ext_getElem?
  intro i
  by_cases hi : i < l.length
  · rw [List.getElem?_append_left hi, List.getElem?_map, List.getElem?_range (by omega), List.getElem?_eq_getElem hi]
    simp only [Option.map_some]
    congr 1
    have hb := h (l[i]) (List.getElem_mem _)
    unfold bitN
    rw [List.getD_eq_getElem?_getD, List.getElem?_eq_getElem hi]
    simp only [Option.getD_some]
    rcases hb with hb | hb <;> rw [hb] <;> rfl
  · by_cases hj : i < l.length + n
    · rw [List.getElem?_append_right (by omega), List.getElem?_map, List.getElem?_range hj, List.getElem?_replicate, if_pos (by omega)]
      simp only [Option.map_some]
      rw [bitN_end (show l.length ≤ i by omega)]; rfl
    · rw [List.getElem?_eq_none (by simp; omega), List.getElem?_eq_none (by simp; omega)]
theorem mkS_extract (L : List UInt8) (a b : Nat) : (mkS L).extract a b = mkS ((L.drop a).take (b - a)) := by
  apply ByteArray.ext
  rw [ByteArray.data_extract]
  apply Array.toList_inj.1
  rw [Array.toList_extract]
  rfl
theorem bA_mkS (L : List UInt8) (i : Nat) : bA (mkS L) i = (L.getD i 0).toNat := rfl
theorem bA_pack {bits : List UInt8} {m : Nat} (h : m < (bits.length + 7) / 8) : bA (mkS (packL bits)) m = pkB bits m 8 := by
  rw [bA_mkS, List.getD_eq_getElem?_getD]
  unfold packL
  rw [List.getElem?_map, List.getElem?_range h]
  simp only [Option.map_some, Option.getD_some]
  have := pkB_lt bits m 8
  simp
  omega
/-- The bits of packed bits: the same, and 0 up to the next byte. -/
theorem unpk_pack {bits : List UInt8} (h : Bits bits) : unpkL (mkS (packL bits)) = bits ++ List.replicate (8 * ((bits.length + 7) / 8) - bits.length) 48 := by
  unfold unpkL
  rw [size_mkS, length_packL, unpk_to bits _ _ (fun m hm => bA_pack hm), ← bits_all h]
  congr 2
  omega
/-- A frame is decoded without loss. -/
theorem decFrF_frameS {xs : List Int} {o k : Nat} (hs : ∀ x ∈ xs, Smp x) (hl : xs.length ≤ 256) (ho : o ≤ 3) (hk : k ≤ 30) : decFrF (frameS xs o k) = (xs, 0) := by
  obtain ⟨pr, hpr⟩ : ∃ pr, predictF o xs = pr := ⟨_, rfl⟩
  have hprs : ∀ x ∈ pr, Smp x := by rw [← hpr]; exact smp_predictF o xs hs
  have hprl : pr.length = xs.length := by rw [← hpr]; exact length_predictF o xs
  have hrest : restF o pr = xs := by rw [← hpr]; exact restF_predictF o xs hs
  have hbits : Bits (encL pr k) := bits_encL pr k
  have hdec := fun b => decF_enc (k := k) b pr [] [] hprs
  obtain ⟨bits, hbe⟩ : ∃ bits, encL pr k = bits := ⟨_, rfl⟩
  rw [hbe] at hbits
  simp only [hbe, List.nil_append, List.length_nil, Nat.zero_add] at hdec
  obtain ⟨pk, hpk⟩ : ∃ pk, packL bits = pk := ⟨_, rfl⟩
  have hpkl : pk.length = (bits.length + 7) / 8 := by rw [← hpk]; exact length_packL bits
  have hun := unpk_pack hbits
  rw [hpk] at hun
  have hF : frameL xs o k = [UInt8.ofNat (xs.length / 256), UInt8.ofNat (xs.length % 256), UInt8.ofNat o, UInt8.ofNat k] ++ pk := by
    unfold frameL wordL; rw [hpr, hbe, hpk]; rfl
  obtain ⟨cr, hcr⟩ : ∃ cr, wordL (crcF (mkS (frameL xs o k)).data.toList 65535) = cr := ⟨_, rfl⟩
  have hcrl : cr.length = 2 := by rw [← hcr]; rfl
  have hS : frameS xs o k = mkS (frameL xs o k ++ cr) := by unfold frameS sealS; rw [hcr, mkS_append]
  have hFl : (frameL xs o k).length = 4 + pk.length := by rw [hF]; simp; omega
  have hz : (frameS xs o k).size = 6 + pk.length := by rw [hS, size_mkS, List.length_append, hFl, hcrl]; omega
  have hbody : (frameS xs o k).extract 0 ((frameS xs o k).size - 2) = mkS (frameL xs o k) := by
    rw [hz, hS, mkS_extract, List.drop_zero, List.take_append_of_le_length (by rw [hFl]; omega), List.take_of_length_le (by rw [hFl]; omega)]
  have hsl : sealedB (frameS xs o k) = true := by
    unfold sealedB
    rw [hbody]
    exact decide_eq_true rfl
  have hL : frameS xs o k = mkS ([UInt8.ofNat (xs.length / 256), UInt8.ofNat (xs.length % 256), UInt8.ofNat o, UInt8.ofNat k] ++ (pk ++ cr)) := by rw [hS, hF, List.append_assoc]
  have hn : numS (frameS xs o k) 0 = xs.length := by
    unfold numS
    rw [hL, bA_mkS, bA_mkS]
    simp
    omega
  have hb2 : bA (frameS xs o k) 2 = o := by rw [hL, bA_mkS]; simp; omega
  have hb3 : bA (frameS xs o k) 3 = k := by rw [hL, bA_mkS]; simp; omega
  have hmid : midS (frameS xs o k) = mkS pk := by
    unfold midS
    rw [hz, hL, mkS_extract]
    congr 1
    show ((pk ++ cr).take (6 + pk.length - 2 - 4)) = pk
    rw [List.take_append_of_le_length (by omega), List.take_of_length_le (by omega)]
  obtain ⟨pad, hpad⟩ : ∃ pad, 8 * ((bits.length + 7) / 8) - bits.length = pad := ⟨_, rfl⟩
  rw [hpad] at hun
  have hbit : bitS (frameS xs o k) = mkS (bits ++ List.replicate pad 48) := by unfold bitS; rw [hmid, hun]
  have hD : decD (frameS xs o k) = (pr, bits.length, 0) := by
    unfold decD
    rw [hbit, hb3, hn, ← hprl, data_mkS]
    exact hdec (List.replicate pad 48)
  have hr : restB ((bitS (frameS xs o k)).extract bits.length (bitS (frameS xs o k)).size) = true := by
    rw [hbit, size_mkS, mkS_extract, List.drop_left, List.take_of_length_le (by simp)]
    unfold restB
    rw [size_mkS, data_mkS, List.length_replicate, decide_eq_true (show pad < 8 by omega)]
    simp
  have hhd : hdB (frameS xs o k) = true := by unfold hdB; rw [hn, hb2, hb3]; simp; omega
  rw [dfr6 (by omega) hsl hhd hD hr, hb2, hrest]
end
open Go.RowKit
theorem xor_cancel {a b c : Nat} (h : a ^^^ c = b ^^^ c) : a = b := by
  have h1 : (a ^^^ c) ^^^ c = (b ^^^ c) ^^^ c := by rw [h]
  rw [Nat.xor_assoc, Nat.xor_assoc, Nat.xor_self, Nat.xor_zero, Nat.xor_zero] at h1
  exact h1
theorem xor_cancel_left {a b c : Nat} (h : c ^^^ a = c ^^^ b) : a = b := by
  rw [Nat.xor_comm c a, Nat.xor_comm c b] at h
  exact xor_cancel h
theorem crcBit_inj {x y : Nat} (hx : x < 65536) (hy : y < 65536) (h : crcBit x = crcBit y) : x = y := by
  unfold crcBit at h
  have hxor : ∀ a, (2 * a % 65536 ^^^ 4129) % 2 = 1 := by
    intro a
    rw [Nat.xor_mod_two_eq_one]
    omega
  split at h <;> split at h
  · have := xor_cancel h; omega
  · have := hxor x; omega
  · have := hxor y; omega
  · omega
theorem crcBits_inj : ∀ (k : Nat) {x y : Nat}, x < 65536 → y < 65536 → crcBits k x = crcBits k y → x = y
  | 0, _, _, _, _, h => h
  | k + 1, _, _, hx, hy, h => crcBit_inj hx hy (crcBits_inj k (crcBit_lt hx) (crcBit_lt hy) h)
theorem crcArg_lt {x b : Nat} (hx : x < 65536) (hb : b < 256) : x ^^^ (b * 256) < 65536 := Nat.xor_lt_two_pow (n := 16) (by omega) (by omega)
theorem crcByte_lt2 {x b : Nat} (hx : x < 65536) (hb : b < 256) : crcByte x b < 65536 := crcBits_lt 8 (crcArg_lt hx hb)
theorem crcByte_inj_x {x y b : Nat} (hx : x < 65536) (hy : y < 65536) (hb : b < 256) (h : crcByte x b = crcByte y b) : x = y :=
  xor_cancel (crcBits_inj 8 (crcArg_lt hx hb) (crcArg_lt hy hb) h)
theorem crcByte_inj_b {x b c : Nat} (hx : x < 65536) (hb : b < 256) (hc : c < 256) (h : crcByte x b = crcByte x c) : b = c := by
  have := xor_cancel_left (crcBits_inj 8 (crcArg_lt hx hb) (crcArg_lt hx hc) h)
  omega
theorem crcF_inj : ∀ (t : List UInt8) {x y : Nat}, x < 65536 → y < 65536 → crcF t x = crcF t y → x = y
  | [], _, _, _, _, h => h
  | b :: t, _, _, hx, hy, h => crcByte_inj_x hx hy (UInt8.toNat_lt b) (crcF_inj t (crcByte_lt2 hx (UInt8.toNat_lt b)) (crcByte_lt2 hy (UInt8.toNat_lt b)) h)
theorem crcF_lt2 : ∀ (t : List UInt8) {x : Nat}, x < 65536 → crcF t x < 65536
  | [], _, h => h
  | b :: t, _, h => crcF_lt2 t (crcByte_lt2 h (UInt8.toNat_lt b))
theorem crcF_set : ∀ (H : List UInt8) (i : Nat) (b : UInt8) {x : Nat}, x < 65536 → (hi : i < H.length) → b ≠ H[i] → crcF (H.set i b) x ≠ crcF H x
  | [], _, _, _, _, hi, _ => by simp at hi
  | c :: t, 0, b, x, hx, _, hb => by
    intro h
    have h1 := crcF_inj t (crcByte_lt2 hx (UInt8.toNat_lt b)) (crcByte_lt2 hx (UInt8.toNat_lt c)) h
    have h2 := crcByte_inj_b hx (UInt8.toNat_lt b) (UInt8.toNat_lt c) h1
    exact hb (UInt8.toNat_inj.1 h2)
  | c :: t, i + 1, b, x, hx, hi, hb => by
    intro h
    exact crcF_set t i b (crcByte_lt2 hx (UInt8.toNat_lt c)) (by simpa using hi) (by simpa using hb) h
theorem wordL_inj {n m : Nat} (hn : n < 65536) (hm : m < 65536) (h : wordL n = wordL m) : n = m := by
  unfold wordL at h
  injection h with h1 h2
  injection h2 with h2 _
  have e1 := congrArg UInt8.toNat h1
  have e2 := congrArg UInt8.toNat h2
  simp at e1 e2
  omega
theorem sealS_mk (H : List UInt8) : sealS (mkS H) = mkS (H ++ wordL (crcF H 65535)) := by
  unfold sealS; rw [mkS_append, data_mkS]
theorem mkS_inj {a b : List UInt8} (h : mkS a = mkS b) : a = b := by
  have := congrArg (fun s : ByteArray => s.data.toList) h
  simpa [data_mkS] using this
/-- A sealed text of which one byte has turned is not sealed any more. -/
theorem sealed_set (H : List UInt8) (i : Nat) (b : UInt8) (hi : i < (H ++ wordL (crcF H 65535)).length) (hb : b ≠ (H ++ wordL (crcF H 65535))[i]) : sealedB (mkS ((H ++ wordL (crcF H 65535)).set i b)) = false := by
  have hwl : (wordL (crcF H 65535)).length = 2 := rfl
  unfold sealedB
  rw [size_mkS, List.length_set, List.length_append, hwl, Nat.add_sub_cancel, mkS_extract, List.drop_zero, Nat.sub_zero]
  apply decide_eq_false
  intro h
  by_cases hlt : i < H.length
  · rw [List.set_append_left _ _ hlt, List.take_append_of_le_length (by simp), List.take_of_length_le (by simp), sealS_mk] at h
    have h2 := List.append_cancel_left (mkS_inj h)
    have h3 := wordL_inj (crcF_lt2 _ (by omega)) (crcF_lt2 _ (by omega)) h2
    refine crcF_set H i b (by omega) hlt ?_ h3
    rw [List.getElem_append_left hlt] at hb
    exact hb
  · rw [List.set_append_right _ _ (by omega), List.take_append_of_le_length (Nat.le_refl _), List.take_of_length_le (Nat.le_refl _), sealS_mk] at h
    have h2 := List.append_cancel_left (mkS_inj h)
    rw [List.getElem_append_right (by omega)] at hb
    apply hb
    have hj : i - H.length < (wordL (crcF H 65535)).length := by rw [List.length_append] at hi; omega
    have h3 : ((wordL (crcF H 65535)).set (i - H.length) b)[i - H.length]'(by rw [List.length_set]; exact hj) = b := by simp
    rw [← h3]
    congr 1
    exact h2.symm
end Go.Proofs.YtpmflkoepnanoaaDoor
