/- Contract: the parts of a text, by the library. -/
import Derived.Test.YtpmflkoepnanoaaVa
namespace Go.Proofs.Ytpmflkoepnanoaa
open Go.RowKit
theorem partsB_hit {s : ByteArray} (h : fstI 10 s.data.toList < s.size) : partsB 10 s = s.extract 0 (fstI 10 s.data.toList) :: partsB 10 (s.extract (fstI 10 s.data.toList + 1) s.size) := by
  have hl : s.data.toList.length = s.size := Array.length_toList
  unfold partsB
  have e : (s.data.toList.drop (fstI 10 s.data.toList + 1)).take (s.size - (fstI 10 s.data.toList + 1)) = s.data.toList.drop (fstI 10 s.data.toList + 1) := List.take_of_length_le (by rw [List.length_drop, hl]; omega)
  rw [partsL_cut, if_pos (by rw [hl]; exact h), List.map_cons, mkS_take, mkS_sub, data_mkS, e]
theorem partsB_miss {s : ByteArray} (h : ¬ fstI 10 s.data.toList < s.size) : partsB 10 s = [s] := by
  have hl : s.data.toList.length = s.size := Array.length_toList
  unfold partsB
  rw [partsL_cut, if_neg (by rw [hl]; exact h), List.map_cons, List.map_nil, mkS_data]
theorem rep_set {d : List ByteArray} {n i : Nat} (x : ByteArray) (h : d.length = i) (hi : i < n) : (d ++ List.replicate (n - i) ByteArray.empty).set i x = (d ++ [x]) ++ List.replicate (n - (i + 1)) ByteArray.empty := by
  subst h
  rw [List.set_append_right _ _ (Nat.le_refl _), Nat.sub_self]
  have : n - d.length = (n - (d.length + 1)) + 1 := by omega
  rw [this, List.replicate_succ, List.set_cons_zero]
  simp
end Go.Proofs.Ytpmflkoepnanoaa
