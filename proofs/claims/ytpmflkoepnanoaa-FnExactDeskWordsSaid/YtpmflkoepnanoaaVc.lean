/- Contracts: the lines of a text, by both sides. -/
import Derived.Test.YtpmflkoepnanoaaVb
namespace Go.Proofs.Ytpmflkoepnanoaa
open Go.RowKit
theorem count_le (s : ByteArray) : s.data.toList.count 10 ≤ s.size := by
  have := List.count_le_length (a := (10 : UInt8)) (l := s.data.toList); rw [Array.length_toList] at this; exact this
theorem linesF_take (s : ByteArray) : linesF s = (partsB 10 s).take (s.data.toList.count 10) := by
  unfold linesF; rw [List.dropLast_eq_take, length_partsB]; rfl
theorem text_last (s : ByteArray) : decide (lastF s = []) = (decide (s = ⟨#[]⟩) || Lib.hasSuffix s.data.toList [10]) := by
  have h := last_suffix s.data.toList
  have h1 : (s.data.toList = []) ↔ s = ⟨#[]⟩ := by
    constructor
    · intro e; apply ByteArray.ext; apply Array.toList_inj.1; exact e
    · rintro rfl; rfl
  rw [h1] at h
  unfold lastF Lib.hasSuffix
  rw [Bool.eq_iff_iff]
  simp only [decide_eq_true_eq, Bool.or_eq_true, List.isSuffixOf_iff_suffix]
  exact h
/-- The state of a split between two bytes. -/
def partI (c : UInt8) (s : ByteArray) (f i : Nat) (out : List ByteArray) : Prop := partsB c s = out ++ (glue ((s.data.toList.drop f).take (i - f)) (partsL c (s.data.toList.drop i))).map mkS
theorem partI_start (c : UInt8) (s : ByteArray) : partI c s 0 0 [] := by
  unfold partI partsB
  have : glue ((s.data.toList.drop 0).take (0 - 0)) (partsL c (s.data.toList.drop 0)) = partsL c s.data.toList := by simp [glue_nil (partsL_ne _ _)]
  rw [this]; rfl
theorem partI_hit {c : UInt8} {s : ByteArray} {f i : Nat} {out : List ByteArray} (h : partI c s f i out) (hb : s.data.toList[i]? = some c) : partI c s (i + 1) (i + 1) (out ++ [s.extract f i]) := by
  have hi := (List.getElem?_eq_some_iff.1 hb).1
  have he := (List.getElem?_eq_some_iff.1 hb).2
  unfold partI at *
  rw [h, List.drop_eq_getElem_cons hi, he, glue_hit, mkS_sub]
  simp
theorem partI_miss {c b : UInt8} {s : ByteArray} {f i : Nat} {out : List ByteArray} (h : partI c s f i out) (hf : f ≤ i) (hb : s.data.toList[i]? = some b) (hc : b ≠ c) : partI c s f (i + 1) out := by
  have hi := (List.getElem?_eq_some_iff.1 hb).1
  have he := (List.getElem?_eq_some_iff.1 hb).2
  unfold partI at *
  rw [h, List.drop_eq_getElem_cons hi, he, glue_miss hc]
  have e : (s.data.toList.drop f).take (i - f) ++ [b] = (s.data.toList.drop f).take (i + 1 - f) := by
    rw [show i + 1 - f = (i - f) + 1 by omega, List.take_add_one, List.getElem?_drop, show f + (i - f) = i by omega, hb]; rfl
  rw [e]
theorem partI_end {c : UInt8} {s : ByteArray} {f : Nat} {out : List ByteArray} (h : partI c s f s.size out) : partsB c s = out ++ [s.extract f s.size] := by
  unfold partI at h
  have e : s.data.toList.drop s.size = [] := List.drop_eq_nil_of_le (by rw [Array.length_toList]; exact Nat.le_refl _)
  rw [h, e, mkS_sub]
  simp [partsL, glue]
theorem partI_len {c : UInt8} {s : ByteArray} {f i : Nat} {out : List ByteArray} (h : partI c s f i out) : out.length ≤ s.size := by
  have h1 := congrArg List.length h
  rw [length_partsB, List.length_append, List.length_map] at h1
  have h2 : s.data.toList.count c ≤ s.size := by have := List.count_le_length (a := c) (l := s.data.toList); rw [Array.length_toList] at this; exact this
  have h3 : 0 < (glue ((s.data.toList.drop f).take (i - f)) (partsL c (s.data.toList.drop i))).length := by
    cases hp : partsL c (s.data.toList.drop i) <;> simp [glue]
  omega
end Go.Proofs.Ytpmflkoepnanoaa
