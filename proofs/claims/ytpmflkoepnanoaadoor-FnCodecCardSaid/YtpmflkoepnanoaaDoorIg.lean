/- Contract: a frame that is decoded; the other side. -/
import Derived.Test.YtpmflkoepnanoaaDoorId
import Derived.Test.YtpmflkoepnanoaaDoorIu
import Derived.Test.YtpmflkoepnanoaaDoorHb
namespace Go.Proofs.YtpmflkoepnanoaaDoor
open Go.RowKit
def midS (s : ByteArray) : ByteArray := s.extract 4 (s.size - 2)
def bitS (s : ByteArray) : ByteArray := mkS (unpkL (midS s))
def decD (s : ByteArray) : List Int × Nat × Int := decF (bitS s).data.toList (bA s 3) (numS s 0) 0 []
def rstS (s : ByteArray) : ByteArray := (bitS s).extract (decD s).2.1 (bitS s).size
def hdB (s : ByteArray) : Bool := decide (numS s 0 ≤ 256) && decide (bA s 2 ≤ 3) && decide (bA s 3 ≤ 30)
/-- A frame decoded: the samples and the code. -/
def decFrF (s : ByteArray) : List Int × Int :=
  if s.size < 6 then ([], 11) else if sealedB s = false then ([], 10) else if hdB s = false then ([], 9)
  else if (decD s).2.2 ≠ 0 then ([], (decD s).2.2) else if restB (rstS s) = false then ([], 9) else (restF (bA s 2) (decD s).1, 0)
def DfR (s : ByteArray) (w : World) (e : Ending) (w' : World) : Prop := ∃ v, e = .returned (.tuple #[v, .int .i64 (decFrF s).2]) ∧ OwI 2 w' w.heap.size v (decFrF s).1 ∧ Below w.heap.size w w'
theorem DfR.mkE {s : ByteArray} {w w' : World} {c : Int} (h : decFrF s = ([], c)) (hb : Below w.heap.size w w') : DfR s w (.returned (.tuple #[.slice none 0 0, .int .i64 c])) w' :=
  ⟨_, by rw [h], by rw [h]; exact OwI.nil_ _ _ _, hb⟩
theorem DfR.mk {s : ByteArray} {w w' : World} {v : Value} {xs : List Int} {c : Int} (h : decFrF s = (xs, c)) (ho : OwI 2 w' w.heap.size v xs) (hb : Below w.heap.size w w') : DfR s w (.returned (.tuple #[v, .int .i64 c])) w' :=
  ⟨_, by rw [h], by rw [h]; exact ho, hb⟩
section
variable {s : ByteArray}
theorem dfr1 (h : s.size < 6) : decFrF s = ([], 11) := by unfold decFrF; rw [if_pos h]
theorem dfr2 (h : ¬ s.size < 6) (h2 : sealedB s = false) : decFrF s = ([], 10) := by unfold decFrF; rw [if_neg h, if_pos h2]
theorem dfr3 (h : ¬ s.size < 6) (h2 : sealedB s = true) (h3 : hdB s = false) : decFrF s = ([], 9) := by unfold decFrF; rw [if_neg h, if_neg (by rw [h2]; simp), if_pos h3]
theorem dfr4 (h : ¬ s.size < 6) (h2 : sealedB s = true) (h3 : hdB s = true) {xs : List Int} {p : Nat} {c : Int} (h4 : decD s = (xs, p, c)) (hc : c ≠ 0) : decFrF s = ([], c) := by
  unfold decFrF; rw [if_neg h, if_neg (by rw [h2]; simp), if_neg (by rw [h3]; simp), h4]; exact if_pos hc
theorem dfr5 (h : ¬ s.size < 6) (h2 : sealedB s = true) (h3 : hdB s = true) {xs : List Int} {p : Nat} (h4 : decD s = (xs, p, 0)) (h5 : restB ((bitS s).extract p (bitS s).size) = false) : decFrF s = ([], 9) := by
  unfold decFrF rstS; rw [if_neg h, if_neg (by rw [h2]; simp), if_neg (by rw [h3]; simp), h4]; exact if_pos h5
theorem dfr6 (h : ¬ s.size < 6) (h2 : sealedB s = true) (h3 : hdB s = true) {xs : List Int} {p : Nat} (h4 : decD s = (xs, p, 0)) (h5 : restB ((bitS s).extract p (bitS s).size) = true) : decFrF s = (restF (bA s 2) xs, 0) := by
  unfold decFrF rstS; rw [if_neg h, if_neg (by rw [h2]; simp), if_neg (by rw [h3]; simp), h4]; simp only; rw [if_neg (by simp), h5]; simp
end
theorem restB_long {t : ByteArray} (h : 8 ≤ t.size) : restB t = false := by unfold restB; rw [decide_eq_false (by omega)]; rfl
theorem restB_bad {t : ByteArray} {i : Nat} (hi : i < t.size) (h : bA t i ≠ 48) : restB t = false := by
  have hl : i < t.data.toList.length := by rw [Array.length_toList]; exact hi
  have : t.data.toList.all (· == 48) = false := by
    rw [List.all_eq_false]
    refine ⟨t.data.toList[i], List.getElem_mem _, ?_⟩
    intro hc
    apply h
    unfold bA
    rw [List.getD_eq_getElem?_getD, List.getElem?_eq_getElem hl]
    simp only [Option.getD_some]
    rw [beq_iff_eq.1 hc]; rfl
  unfold restB; rw [this, Bool.and_false]
theorem restB_ok {t : ByteArray} (h : t.size < 8) (h2 : ∀ i, i < t.size → bA t i = 48) : restB t = true := by
  unfold restB
  rw [Bool.and_eq_true]
  refine ⟨decide_eq_true h, ?_⟩
  rw [List.all_eq_true]
  intro x hx
  obtain ⟨i, hi, rfl⟩ := List.mem_iff_getElem.1 hx
  have hl : i < t.size := by rw [← len_data]; exact hi
  have := h2 i hl
  unfold bA at this
  rw [List.getD_eq_getElem?_getD, List.getElem?_eq_getElem hi] at this
  simp only [Option.getD_some] at this
  exact beq_iff_eq.2 (UInt8.toNat_inj.1 this)
theorem bits_mid (s : ByteArray) : Bits (bitS s).data.toList := bits_unpk _
theorem size_bitS (s : ByteArray) (h : 6 ≤ s.size) : (bitS s).size = 8 * (s.size - 6) := by
  unfold bitS; rw [size_unpk]; unfold midS; rw [ByteArray.size_extract]; omega
theorem bits_ext {t : ByteArray} (h : Bits t.data.toList) (a b : Nat) : Bits (t.extract a b).data.toList := by
  intro x hx
  apply h x
  rw [ByteArray.data_extract] at hx
  simp only [Array.toList_extract] at hx
  exact List.mem_of_mem_drop (List.mem_of_mem_take hx)
end Go.Proofs.YtpmflkoepnanoaaDoor
