/- Plain steps of the changes from some lines to others. -/
import Derived.Test.YtjapidcbfnknkaaDoorZd
namespace Go.Proofs.YtjapidcbfnknkaaDoor
open Go.RowKit
theorem diff_both {a b : List ByteArray} {i j : Nat} {x y : ByteArray} (hx : a[i]? = some x) (hy : b[j]? = some y) (h : x = y) :
    diffF i (a.drop i) (b.drop j) = diffF (i + 1) (a.drop (i + 1)) (b.drop (j + 1)) := by
  obtain ⟨hi, rfl⟩ := List.getElem?_eq_some_iff.1 hx
  obtain ⟨hj, rfl⟩ := List.getElem?_eq_some_iff.1 hy
  rw [List.drop_eq_getElem_cons hi, List.drop_eq_getElem_cons hj, diffF, if_pos h]
theorem diff_del {a b : List ByteArray} {i j : Nat} {x y : ByteArray} (hx : a[i]? = some x) (hy : b[j]? = some y) (h : ¬ x = y) (hl : lenM a b i (j + 1) ≤ lenM a b (i + 1) j) :
    diffF i (a.drop i) (b.drop j) = ⟨1, (i : Int), x⟩ :: diffF (i + 1) (a.drop (i + 1)) (b.drop j) := by
  obtain ⟨hi, rfl⟩ := List.getElem?_eq_some_iff.1 hx
  obtain ⟨hj, rfl⟩ := List.getElem?_eq_some_iff.1 hy
  unfold lenM at hl
  rw [List.drop_eq_getElem_cons hi, List.drop_eq_getElem_cons hj] at hl ⊢
  rw [diffF, if_neg h, if_pos (by omega)]
theorem diff_ins {a b : List ByteArray} {i j : Nat} {x y : ByteArray} (hx : a[i]? = some x) (hy : b[j]? = some y) (h : ¬ x = y) (hl : lenM a b (i + 1) j < lenM a b i (j + 1)) :
    diffF i (a.drop i) (b.drop j) = ⟨2, (i : Int), y⟩ :: diffF i (a.drop i) (b.drop (j + 1)) := by
  obtain ⟨hi, rfl⟩ := List.getElem?_eq_some_iff.1 hx
  obtain ⟨hj, rfl⟩ := List.getElem?_eq_some_iff.1 hy
  unfold lenM at hl
  rw [List.drop_eq_getElem_cons hi, List.drop_eq_getElem_cons hj] at hl ⊢
  rw [diffF, if_neg h, if_neg (by omega)]
theorem diff_del0 {a b : List ByteArray} {i : Nat} {x : ByteArray} (hx : a[i]? = some x) :
    diffF i (a.drop i) (b.drop b.length) = ⟨1, (i : Int), x⟩ :: diffF (i + 1) (a.drop (i + 1)) (b.drop b.length) := by
  obtain ⟨hi, rfl⟩ := List.getElem?_eq_some_iff.1 hx
  rw [List.drop_eq_getElem_cons hi, List.drop_length, diffF]
theorem diff_ins0 {a b : List ByteArray} {j : Nat} {y : ByteArray} (hy : b[j]? = some y) :
    diffF a.length (a.drop a.length) (b.drop j) = ⟨2, (a.length : Int), y⟩ :: diffF a.length (a.drop a.length) (b.drop (j + 1)) := by
  obtain ⟨hj, rfl⟩ := List.getElem?_eq_some_iff.1 hy
  rw [List.drop_eq_getElem_cons hj, List.drop_length, diffF]
theorem diff_end {a b : List ByteArray} : diffF a.length (a.drop a.length) (b.drop b.length) = [] := by
  rw [List.drop_length, List.drop_length, diffF]
end Go.Proofs.YtjapidcbfnknkaaDoor
