/- Plain: a change of one byte is noticed. -/
import Derived.Test.YtopgjanpbfnlnaaQb
namespace Go.Proofs.Ytopgjanpbfnlnaa
open Go.RowKit
theorem xor_cancel {a b c : Nat} (h : a ^^^ c = b ^^^ c) : a = b := by
  have h1 : (a ^^^ c) ^^^ c = (b ^^^ c) ^^^ c := by rw [h]
  rw [Nat.xor_assoc, Nat.xor_assoc, Nat.xor_self, Nat.xor_zero, Nat.xor_zero] at h1
  exact h1
theorem xor_cancel_left {a b c : Nat} (h : c ^^^ a = c ^^^ b) : a = b := by
  rw [Nat.xor_comm c a, Nat.xor_comm c b] at h
  exact xor_cancel h
theorem crcBit_inj {x y : Nat} (hx : x < 65536) (hy : y < 65536) (h : crcBit x = crcBit y) : x = y := by
  unfold crcBit at h
  have hxor : ∀ a, (2 * a % 65536 ^^^ 4129) % 2 = 1 := by
    intro a
    rw [Nat.xor_mod_two_eq_one]
    omega
  split at h <;> split at h
  · have := xor_cancel h; omega
  · have := hxor x; omega
  · have := hxor y; omega
  · omega
theorem crcBits_inj : ∀ (k : Nat) {x y : Nat}, x < 65536 → y < 65536 → crcBits k x = crcBits k y → x = y
  | 0, _, _, _, _, h => h
  | k + 1, _, _, hx, hy, h => crcBit_inj hx hy (crcBits_inj k (crcBit_lt hx) (crcBit_lt hy) h)
theorem crcArg_lt {x b : Nat} (hx : x < 65536) (hb : b < 256) : x ^^^ (b * 256) < 65536 := Nat.xor_lt_two_pow (n := 16) (by omega) (by omega)
theorem crcByte_lt2 {x b : Nat} (hx : x < 65536) (hb : b < 256) : crcByte x b < 65536 := crcBits_lt 8 (crcArg_lt hx hb)
theorem crcByte_inj_x {x y b : Nat} (hx : x < 65536) (hy : y < 65536) (hb : b < 256) (h : crcByte x b = crcByte y b) : x = y :=
  xor_cancel (crcBits_inj 8 (crcArg_lt hx hb) (crcArg_lt hy hb) h)
theorem crcByte_inj_b {x b c : Nat} (hx : x < 65536) (hb : b < 256) (hc : c < 256) (h : crcByte x b = crcByte x c) : b = c := by
  have := xor_cancel_left (crcBits_inj 8 (crcArg_lt hx hb) (crcArg_lt hx hc) h)
  omega
theorem crcF_inj : ∀ (t : List UInt8) {x y : Nat}, x < 65536 → y < 65536 → crcF t x = crcF t y → x = y
  | [], _, _, _, _, h => h
  | b :: t, _, _, hx, hy, h => crcByte_inj_x hx hy (UInt8.toNat_lt b) (crcF_inj t (crcByte_lt2 hx (UInt8.toNat_lt b)) (crcByte_lt2 hy (UInt8.toNat_lt b)) h)
theorem crcF_lt2 : ∀ (t : List UInt8) {x : Nat}, x < 65536 → crcF t x < 65536
  | [], _, h => h
  | b :: t, _, h => crcF_lt2 t (crcByte_lt2 h (UInt8.toNat_lt b))
theorem crcF_set : ∀ (H : List UInt8) (i : Nat) (b : UInt8) {x : Nat}, x < 65536 → (hi : i < H.length) → b ≠ H[i] → crcF (H.set i b) x ≠ crcF H x
  | [], _, _, _, _, hi, _ => by simp at hi
  | c :: t, 0, b, x, hx, _, hb => by
    intro h
    have h1 := crcF_inj t (crcByte_lt2 hx (UInt8.toNat_lt b)) (crcByte_lt2 hx (UInt8.toNat_lt c)) h
    have h2 := crcByte_inj_b hx (UInt8.toNat_lt b) (UInt8.toNat_lt c) h1
    exact hb (UInt8.toNat_inj.1 h2)
  | c :: t, i + 1, b, x, hx, hi, hb => by
    intro h
    exact crcF_set t i b (crcByte_lt2 hx (UInt8.toNat_lt c)) (by simpa using hi) (by simpa using hb) h
theorem wordL_inj {n m : Nat} (hn : n < 65536) (hm : m < 65536) (h : wordL n = wordL m) : n = m := by
  unfold wordL at h
  injection h with h1 h2
  injection h2 with h2 _
  have e1 := congrArg UInt8.toNat h1
  have e2 := congrArg UInt8.toNat h2
  simp at e1 e2
  omega
theorem sealS_mk (H : List UInt8) : sealS (mkS H) = mkS (H ++ wordL (crcF H 65535)) := by
  unfold sealS; rw [mkS_append, data_mkS]
theorem mkS_inj {a b : List UInt8} (h : mkS a = mkS b) : a = b := by
  have := congrArg (fun s : ByteArray => s.data.toList) h
  simpa [data_mkS] using this
/-- A sealed text of which one byte has turned is not sealed any more. -/
theorem sealed_set (H : List UInt8) (i : Nat) (b : UInt8) (hi : i < (H ++ wordL (crcF H 65535)).length) (hb : b ≠ (H ++ wordL (crcF H 65535))[i]) : sealedB (mkS ((H ++ wordL (crcF H 65535)).set i b)) = false := by
  have hwl : (wordL (crcF H 65535)).length = 2 := rfl
  unfold sealedB
  rw [size_mkS, List.length_set, List.length_append, hwl, Nat.add_sub_cancel, mkS_extract, List.drop_zero, Nat.sub_zero]
  apply decide_eq_false
  intro h
  by_cases hlt : i < H.length
  · rw [List.set_append_left _ _ hlt, List.take_append_of_le_length (by simp), List.take_of_length_le (by simp), sealS_mk] at h
    have h2 := List.append_cancel_left (mkS_inj h)
    have h3 := wordL_inj (crcF_lt2 _ (by omega)) (crcF_lt2 _ (by omega)) h2
    refine crcF_set H i b (by omega) hlt ?_ h3
    rw [List.getElem_append_left hlt] at hb
    exact hb
  · rw [List.set_append_right _ _ (by omega), List.take_append_of_le_length (Nat.le_refl _), List.take_of_length_le (Nat.le_refl _), sealS_mk] at h
    have h2 := List.append_cancel_left (mkS_inj h)
    rw [List.getElem_append_right (by omega)] at hb
    apply hb
    have hj : i - H.length < (wordL (crcF H 65535)).length := by rw [List.length_append] at hi; omega
    have h3 : ((wordL (crcF H 65535)).set (i - H.length) b)[i - H.length]'(by rw [List.length_set]; exact hj) = b := by simp
    rw [← h3]
    congr 1
    exact h2.symm
end Go.Proofs.Ytopgjanpbfnlnaa
