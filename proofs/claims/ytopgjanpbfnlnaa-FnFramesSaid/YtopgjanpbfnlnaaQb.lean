/- Plain: a frame is decoded without loss. -/
import Derived.Test.YtopgjanpbfnlnaaQa
import Derived.Test.YtopgjanpbfnlnaaIg
import Derived.Test.YtopgjanpbfnlnaaFa
namespace Go.Proofs.Ytopgjanpbfnlnaa
open Go.RowKit
theorem sampF_app {a l : List UInt8} {k p : Nat} {x : Int} (h : sampF l 0 k = (x, p, 0)) : sampF (a ++ l) a.length k = (x, a.length + p, 0) := by
  have ho := onesF_app a l 20 0
  rw [Nat.add_zero] at ho
  by_cases h20 : onesF l 20 0 = 20
  · have hr := readF_app a l 20 32
    by_cases h1 : l.length < 0 + 52
    · rw [samp_cutY h20 h1] at h; simp at h
    · by_cases h2 : readF l (0 + 20) 32 / 2 ^ k < 20
      · rw [samp_badY h20 h1 h2] at h; simp at h
      · rw [samp_okY h20 h1 h2] at h
        injection h with e1 e2
        injection e2 with e2 _
        rw [Nat.zero_add] at e1 e2 h1 h2
        have := samp_okY (l := a ++ l) (p := a.length) (k := k) (by rw [ho, h20]) (by rw [List.length_append]; omega) (by rw [hr]; exact h2)
        rw [this, hr, e1, ← e2]
  · have hle := onesF_le l 20 0
    obtain ⟨q, hq⟩ : ∃ q, onesF l 20 0 = q := ⟨_, rfl⟩
    rw [hq] at h20 hle ho
    have hr := readF_app a l (q + 1) k
    rw [← Nat.add_assoc] at hr
    by_cases h1 : l.length < 0 + q + 1 + k
    · rw [samp_cutX (by omega) hq h1] at h; simp at h
    · by_cases h2 : 4294967295 < q * 2 ^ k + readF l (0 + q + 1) k
      · rw [samp_badX (by omega) hq h1 h2] at h; simp at h
      · rw [samp_okX (by omega) hq h1 h2] at h
        injection h with e1 e2
        injection e2 with e2 _
        rw [Nat.zero_add] at e1 e2 h1 h2
        have := samp_okX (l := a ++ l) (p := a.length) (k := k) (show q < 20 by omega) ho (by rw [List.length_append]; omega) (by rw [hr]; exact h2)
        rw [this, hr, e1, ← e2]
        congr 2
        omega
theorem decF_enc {k : Nat} (b : List UInt8) : ∀ (xs : List Int) (a : List UInt8) (acc : List Int), (∀ x ∈ xs, Smp x) →
    decF (a ++ (encL xs k ++ b)) k xs.length a.length acc = (acc ++ xs, a.length + (encL xs k).length, 0)
  | [], a, acc, _ => by simp [decF, encL]
  | x :: xs, a, acc, h => by
    have h1 := sampF_enc (k := k) (encL xs k ++ b) (h x (by simp))
    have h2 := sampF_app (a := a) h1
    rw [← List.append_assoc (encC x k)] at h2
    have h3 := decF_enc (k := k) b xs (a ++ encC x k) (acc ++ [x]) (fun y hy => h y (by simp [hy]))
    rw [List.length_cons]
    show decF (a ++ ((encC x k ++ encL xs k) ++ b)) k (xs.length + 1) a.length acc = _
    rw [decF_go h2]
    rw [List.length_append] at h3
    rw [show a ++ ((encC x k ++ encL xs k) ++ b) = a ++ encC x k ++ (encL xs k ++ b) by simp, h3]
    simp [encL, List.append_assoc]
    omega
theorem bit_char (n : Nat) (i b : Nat) (h : n / 2 ^ i % 2 = b) : bitC (n : Int) i = UInt8.ofNat (48 + b) := by
  have e : (n : Int) / 2 ^ i % 2 = ((n / 2 ^ i % 2 : Nat) : Int) := by simp
  unfold bitC
  rw [e, h]; rfl
theorem dig_pk (bits : List UInt8) (m : Nat) : digL (pkB bits m 8 : Nat) 8 = (List.range 8).map (fun c => UInt8.ofNat (48 + bitN bits (8 * m + c))) := by
  have h0 := bitN_le bits (8 * m + 0); have h1 := bitN_le bits (8 * m + 1); have h2 := bitN_le bits (8 * m + 2); have h3 := bitN_le bits (8 * m + 3)
  have h4 := bitN_le bits (8 * m + 4); have h5 := bitN_le bits (8 * m + 5); have h6 := bitN_le bits (8 * m + 6); have h7 := bitN_le bits (8 * m + 7)
  have hp : pkB bits m 8 = 2 * (2 * (2 * (2 * (2 * (2 * (2 * (2 * 0 + bitN bits (8 * m + 0)) + bitN bits (8 * m + 1)) + bitN bits (8 * m + 2)) + bitN bits (8 * m + 3)) + bitN bits (8 * m + 4)) + bitN bits (8 * m + 5)) + bitN bits (8 * m + 6)) + bitN bits (8 * m + 7) := rfl
  generalize pkB bits m 8 = n at *
  have e : (List.range 8).map (fun c => UInt8.ofNat (48 + bitN bits (8 * m + c))) = [UInt8.ofNat (48 + bitN bits (8 * m + 0)), UInt8.ofNat (48 + bitN bits (8 * m + 1)), UInt8.ofNat (48 + bitN bits (8 * m + 2)), UInt8.ofNat (48 + bitN bits (8 * m + 3)), UInt8.ofNat (48 + bitN bits (8 * m + 4)), UInt8.ofNat (48 + bitN bits (8 * m + 5)), UInt8.ofNat (48 + bitN bits (8 * m + 6)), UInt8.ofNat (48 + bitN bits (8 * m + 7))] := rfl
  rw [e]
  generalize bitN bits (8 * m + 0) = b0 at *
  generalize bitN bits (8 * m + 1) = b1 at *
  generalize bitN bits (8 * m + 2) = b2 at *
  generalize bitN bits (8 * m + 3) = b3 at *
  generalize bitN bits (8 * m + 4) = b4 at *
  generalize bitN bits (8 * m + 5) = b5 at *
  generalize bitN bits (8 * m + 6) = b6 at *
  generalize bitN bits (8 * m + 7) = b7 at *
  show [bitC (n : Int) 7, bitC (n : Int) 6, bitC (n : Int) 5, bitC (n : Int) 4, bitC (n : Int) 3, bitC (n : Int) 2, bitC (n : Int) 1, bitC (n : Int) 0] = _
  rw [bit_char n 7 b0 (by omega), bit_char n 6 b1 (by omega), bit_char n 5 b2 (by omega), bit_char n 4 b3 (by omega), bit_char n 3 b4 (by omega), bit_char n 2 b5 (by omega), bit_char n 1 b6 (by omega), bit_char n 0 b7 (by omega)]
theorem unpk_to (bits : List UInt8) (s : ByteArray) : ∀ j, (∀ m, m < j → bA s m = pkB bits m 8) → unpkTo s j = (List.range (8 * j)).map (fun c => UInt8.ofNat (48 + bitN bits c))
  | 0, _ => rfl
  | j + 1, h => by
    simp only [unpkTo]
    rw [unpk_to bits s j (fun m hm => h m (by omega)), h j (by omega), dig_pk, show 8 * (j + 1) = 8 * j + 8 by omega, List.range_add, List.map_append, List.map_map]
    rfl
theorem bits_all {l : List UInt8} (h : Bits l) (n : Nat) : (List.range (l.length + n)).map (fun c => UInt8.ofNat (48 + bitN l c)) = l ++ List.replicate n 48 := by
  apply List.ext_getElem?
  intro i
  by_cases hi : i < l.length
  · rw [List.getElem?_append_left hi, List.getElem?_map, List.getElem?_range (by omega), List.getElem?_eq_getElem hi]
    simp only [Option.map_some]
    congr 1
    have hb := h (l[i]) (List.getElem_mem _)
    unfold bitN
    rw [List.getD_eq_getElem?_getD, List.getElem?_eq_getElem hi]
    simp only [Option.getD_some]
    rcases hb with hb | hb <;> rw [hb] <;> rfl
  · by_cases hj : i < l.length + n
    · rw [List.getElem?_append_right (by omega), List.getElem?_map, List.getElem?_range hj, List.getElem?_replicate, if_pos (by omega)]
      simp only [Option.map_some]
      rw [bitN_end (show l.length ≤ i by omega)]; rfl
    · rw [List.getElem?_eq_none (by simp; omega), List.getElem?_eq_none (by simp; omega)]
theorem mkS_extract (L : List UInt8) (a b : Nat) : (mkS L).extract a b = mkS ((L.drop a).take (b - a)) := by
  apply ByteArray.ext
  rw [ByteArray.data_extract]
  apply Array.toList_inj.1
  rw [Array.toList_extract]
  rfl
theorem bA_mkS (L : List UInt8) (i : Nat) : bA (mkS L) i = (L.getD i 0).toNat := rfl
theorem bA_pack {bits : List UInt8} {m : Nat} (h : m < (bits.length + 7) / 8) : bA (mkS (packL bits)) m = pkB bits m 8 := by
  rw [bA_mkS, List.getD_eq_getElem?_getD]
  unfold packL
  rw [List.getElem?_map, List.getElem?_range h]
  simp only [Option.map_some, Option.getD_some]
  have := pkB_lt bits m 8
  simp
  omega
/-- The bits of packed bits: the same, and 0 up to the next byte. -/
theorem unpk_pack {bits : List UInt8} (h : Bits bits) : unpkL (mkS (packL bits)) = bits ++ List.replicate (8 * ((bits.length + 7) / 8) - bits.length) 48 := by
  unfold unpkL
  rw [size_mkS, length_packL, unpk_to bits _ _ (fun m hm => bA_pack hm), ← bits_all h]
  congr 2
  omega
/-- A frame is decoded without loss. -/
theorem decFrF_frameS {xs : List Int} {o k : Nat} (hs : ∀ x ∈ xs, Smp x) (hl : xs.length ≤ 256) (ho : o ≤ 3) (hk : k ≤ 30) : decFrF (frameS xs o k) = (xs, 0) := by
  obtain ⟨pr, hpr⟩ : ∃ pr, predictF o xs = pr := ⟨_, rfl⟩
  have hprs : ∀ x ∈ pr, Smp x := by rw [← hpr]; exact smp_predictF o xs hs
  have hprl : pr.length = xs.length := by rw [← hpr]; exact length_predictF o xs
  have hrest : restF o pr = xs := by rw [← hpr]; exact restF_predictF o xs hs
  have hbits : Bits (encL pr k) := bits_encL pr k
  have hdec := fun b => decF_enc (k := k) b pr [] [] hprs
  obtain ⟨bits, hbe⟩ : ∃ bits, encL pr k = bits := ⟨_, rfl⟩
  rw [hbe] at hbits
  simp only [hbe, List.nil_append, List.length_nil, Nat.zero_add] at hdec
  obtain ⟨pk, hpk⟩ : ∃ pk, packL bits = pk := ⟨_, rfl⟩
  have hpkl : pk.length = (bits.length + 7) / 8 := by rw [← hpk]; exact length_packL bits
  have hun := unpk_pack hbits
  rw [hpk] at hun
  have hF : frameL xs o k = [UInt8.ofNat (xs.length / 256), UInt8.ofNat (xs.length % 256), UInt8.ofNat o, UInt8.ofNat k] ++ pk := by
    unfold frameL wordL; rw [hpr, hbe, hpk]; rfl
  obtain ⟨cr, hcr⟩ : ∃ cr, wordL (crcF (mkS (frameL xs o k)).data.toList 65535) = cr := ⟨_, rfl⟩
  have hcrl : cr.length = 2 := by rw [← hcr]; rfl
  have hS : frameS xs o k = mkS (frameL xs o k ++ cr) := by unfold frameS sealS; rw [hcr, mkS_append]
  have hFl : (frameL xs o k).length = 4 + pk.length := by rw [hF]; simp; omega
  have hz : (frameS xs o k).size = 6 + pk.length := by rw [hS, size_mkS, List.length_append, hFl, hcrl]; omega
  have hbody : (frameS xs o k).extract 0 ((frameS xs o k).size - 2) = mkS (frameL xs o k) := by
    rw [hz, hS, mkS_extract, List.drop_zero, List.take_append_of_le_length (by rw [hFl]; omega), List.take_of_length_le (by rw [hFl]; omega)]
  have hsl : sealedB (frameS xs o k) = true := by
    unfold sealedB
    rw [hbody]
    exact decide_eq_true rfl
  have hL : frameS xs o k = mkS ([UInt8.ofNat (xs.length / 256), UInt8.ofNat (xs.length % 256), UInt8.ofNat o, UInt8.ofNat k] ++ (pk ++ cr)) := by rw [hS, hF, List.append_assoc]
  have hn : numS (frameS xs o k) 0 = xs.length := by
    unfold numS
    rw [hL, bA_mkS, bA_mkS]
    simp
    omega
  have hb2 : bA (frameS xs o k) 2 = o := by rw [hL, bA_mkS]; simp; omega
  have hb3 : bA (frameS xs o k) 3 = k := by rw [hL, bA_mkS]; simp; omega
  have hmid : midS (frameS xs o k) = mkS pk := by
    unfold midS
    rw [hz, hL, mkS_extract]
    congr 1
    show ((pk ++ cr).take (6 + pk.length - 2 - 4)) = pk
    rw [List.take_append_of_le_length (by omega), List.take_of_length_le (by omega)]
  obtain ⟨pad, hpad⟩ : ∃ pad, 8 * ((bits.length + 7) / 8) - bits.length = pad := ⟨_, rfl⟩
  rw [hpad] at hun
  have hbit : bitS (frameS xs o k) = mkS (bits ++ List.replicate pad 48) := by unfold bitS; rw [hmid, hun]
  have hD : decD (frameS xs o k) = (pr, bits.length, 0) := by
    unfold decD
    rw [hbit, hb3, hn, ← hprl, data_mkS]
    exact hdec (List.replicate pad 48)
  have hr : restB ((bitS (frameS xs o k)).extract bits.length (bitS (frameS xs o k)).size) = true := by
    rw [hbit, size_mkS, mkS_extract, List.drop_left, List.take_of_length_le (by simp)]
    unfold restB
    rw [size_mkS, data_mkS, List.length_replicate, decide_eq_true (show pad < 8 by omega)]
    simp
  have hhd : hdB (frameS xs o k) = true := by unfold hdB; rw [hn, hb2, hb3]; simp; omega
  rw [dfr6 (by omega) hsl hhd hD hr, hb2, hrest]
end Go.Proofs.Ytopgjanpbfnlnaa
