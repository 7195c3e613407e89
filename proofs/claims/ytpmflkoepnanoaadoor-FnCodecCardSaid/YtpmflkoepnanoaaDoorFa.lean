/- Contracts: stores of both sides; the law of StoreSignal. Contracts: StoreSignal of both sides; the law. -/
import Derived.Test.YtpmflkoepnanoaaDoorEc
namespace Go.Proofs.YtpmflkoepnanoaaDoor
section
open Go.RowKit
/-- A frame behind its number of bytes. -/
def bodyS (c : List Int) : ByteArray := mkS (wordL (frameS c (ordR c).1 (ordR c).2).size) ++ frameS c (ordR c).1 (ordR c).2
def chunkL (xs : List Int) (f fr : Nat) : List Int := (xs.drop fr).take f
/-- The first frames of a store. -/
def bodyTo (xs : List Int) (f : Nat) : Nat → ByteArray
  | 0 => ⟨#[]⟩
  | j + 1 => bodyTo xs f j ++ bodyS (chunkL xs f (j * f))
def headS (f n : Nat) : ByteArray := sealS (mkS ([83, 84, 69, 77] ++ wordL f ++ wordL n))
def nch (n f : Nat) : Nat := (n + f - 1) / f
def storeS (xs : List Int) (f : Nat) : ByteArray := headS f xs.length ++ bodyTo xs f (nch xs.length f)
set_option maxRecDepth 100000 in
theorem ordR_bd {c : List Int} (h : ∀ x ∈ c, Smp x) : (ordR c).1 ≤ 3 ∧ (ordR c).2 ≤ 30 := by
  unfold ordR; exact ⟨(ordTo_bd h 3).1, (ordTo_bd h 3).2.1⟩
theorem size_frameS {c : List Int} (h : ∀ x ∈ c, Smp x) (hl : c.length ≤ 256) : (frameS c (ordR c).1 (ordR c).2).size ≤ 1670 ∧ 6 ≤ (frameS c (ordR c).1 (ordR c).2).size := by
  have hk : (ordR c).2 ≤ 30 := (ordR_bd h).2
  have := length_encP (ordR c).1 (ordR c).2 h hk
  unfold frameS
  rw [size_sealS, size_mkS]
  unfold frameL
  simp [wordL, length_packL]
  omega
theorem size_bodyS {c : List Int} (h : ∀ x ∈ c, Smp x) (hl : c.length ≤ 256) : (bodyS c).size ≤ 1672 := by
  have := size_frameS h hl
  unfold bodyS
  rw [ByteArray.size_append, size_mkS]
  simp [wordL]; omega
theorem smp_chunk {xs : List Int} (h : ∀ x ∈ xs, Smp x) (f fr : Nat) : ∀ x ∈ chunkL xs f fr, Smp x := fun x hx => h x (List.mem_of_mem_drop (List.mem_of_mem_take hx))
theorem length_chunk (xs : List Int) (f fr : Nat) : (chunkL xs f fr).length ≤ f := by unfold chunkL; exact List.length_take_le _ _
theorem size_bodyTo {xs : List Int} (h : ∀ x ∈ xs, Smp x) {f : Nat} (hf : f ≤ 256) (j : Nat) : (bodyTo xs f j).size ≤ j * 1672 := by
  induction j with
  | zero => exact Nat.le_refl _
  | succ j ih =>
    have := size_bodyS (smp_chunk h f (j * f)) (Nat.le_trans (length_chunk xs f _) hf)
    simp only [bodyTo]
    rw [ByteArray.size_append]; omega
theorem size_headS (f n : Nat) : (headS f n).size = 10 := by unfold headS; rw [size_sealS, size_mkS]; rfl
theorem RdI.sub {w : World} {b off n cap : Nat} {xs : List Int} (h : RdI w (.slice (some ⟨b, off, none⟩) n cap) xs) {lo hi : Nat} (hlo : lo < hi) (hhi : hi ≤ n) : RdI w (.slice (some ⟨b, off + lo, none⟩) (hi - lo) (cap - lo)) ((xs.drop lo).take (hi - lo)) := by
  obtain ⟨h1, A, cap', h2, h3, h4, h5⟩ := h
  injection h2 with h2 h6 h7
  subst h6 h7
  have hlen : ((xs.drop lo).take (hi - lo)).length = hi - lo := by simp; omega
  obtain ⟨b', off', he, hb, hc⟩ := h5 (by omega)
  rw [← h2] at he
  injection he with he
  injection he with e1 e2
  subst e1 e2
  refine ⟨by simp, some ⟨b, off + lo, none⟩, cap - lo, by rw [hlen], by rw [hlen]; omega, by omega, fun _ => ⟨b, off + lo, rfl, hb, fun j u hu => ?_⟩⟩
  have hj : j < hi - lo := by have := (List.getElem?_eq_some_iff.1 hu).1; rw [List.length_map, hlen] at this; exact this
  rw [List.getElem?_map, List.getElem?_take_of_lt hj, List.getElem?_drop] at hu
  rw [Nat.add_assoc]
  exact hc (lo + j) u (by rw [List.getElem?_map]; exact hu)
theorem nch_at {n f j : Nat} (hf : 0 < f) (h1 : j * f < n + f) (h2 : n ≤ j * f) : j = nch n f := by
  unfold nch
  have := Nat.div_add_mod (n + f - 1) f
  have hm := Nat.mod_lt (n + f - 1) hf
  generalize (n + f - 1) / f = q at *
  rw [Nat.mul_comm] at this
  rcases Nat.lt_trichotomy j q with hlt | rfl | hgt
  · have : (j + 1) * f ≤ q * f := Nat.mul_le_mul_right _ hlt
    rw [Nat.add_mul] at this; omega
  · rfl
  · have : (q + 1) * f ≤ j * f := Nat.mul_le_mul_right _ hgt
    rw [Nat.add_mul] at this; omega
theorem head_cat (f n : Nat) : (⟨#[83, 84, 69, 77]⟩ : ByteArray) ++ mkS (wordL f) ++ mkS (wordL n) = mkS ([83, 84, 69, 77] ++ wordL f ++ wordL n) := by
  show mkS [83, 84, 69, 77] ++ _ ++ _ = _
  rw [mkS_append, mkS_append]
end
open Go.RowKit
def storeF (xs : List Int) (m : Int) : ByteArray × Int := if sigB xs then (if inB m 16 256 then (storeS xs m.toNat, 0) else (⟨#[]⟩, 2)) else (⟨#[]⟩, 1)
def StoR (xs : List Int) (m : Int) (w : World) (e : Ending) (w' : World) : Prop := e = .returned (.tuple #[.string (storeF xs m).1, .int .i64 (storeF xs m).2]) ∧ Below w.heap.size w w'
theorem StoR.mk {xs : List Int} {m : Int} {w w' : World} {a : ByteArray} {c : Int} (h : storeF xs m = (a, c)) (hb : Below w.heap.size w w') : StoR xs m w (.returned (.tuple #[.string a, .int .i64 c])) w' := ⟨by rw [h], hb⟩
end Go.Proofs.YtpmflkoepnanoaaDoor
