/- Contracts: lines joined to a text, by both sides. -/
import Derived.Test.YtjbcanihpcfncaaDoorVd
import Derived.Test.YtjbcanihpcfncaaDoorXs
import Derived.Test.YtjbcanihpcfncaaDoorTb
import Derived.Test.YtjbcanihpcfncaaDoorDa
namespace Go.Proofs.YtjbcanihpcfncaaDoor
open Go.RowKit
def Shrt (ls : List ByteArray) : Prop := ∀ x ∈ ls, x.size ≤ 1048576
theorem joinL_len {ls : List ByteArray} (h : Shrt ls) : (joinL ls).length ≤ ls.length * 1048577 := by
  induction ls with
  | nil => simp [joinL]
  | cons x t ih =>
    have h1 := h x (by simp)
    have h2 := ih fun y hy => h y (by simp [hy])
    have e : joinL (x :: t) = (x.data.toList ++ [10]) ++ joinL t := by simp [joinL]
    have e2 : (x.data.toList ++ [10]).length = x.size + 1 := by rw [List.length_append, Array.length_toList]; rfl
    have e3 : (x :: t).length * 1048577 = t.length * 1048577 + 1048577 := by rw [List.length_cons, Nat.add_mul, Nat.one_mul]
    rw [e, List.length_append, e2, e3]
    omega
theorem Shrt.take {ls : List ByteArray} (h : Shrt ls) (k : Nat) : Shrt (ls.take k) := fun x hx => h x (List.mem_of_mem_take hx)
theorem nl_mkS (x : ByteArray) : x ++ (⟨#[10]⟩ : ByteArray) = mkS (x.data.toList ++ [10]) := by
  apply ByteArray.ext
  apply Array.toList_inj.1
  simp [mkS]
end Go.Proofs.YtjbcanihpcfncaaDoor
