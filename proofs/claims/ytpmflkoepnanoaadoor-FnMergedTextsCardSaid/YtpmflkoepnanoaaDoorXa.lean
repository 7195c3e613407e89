/- Contracts: lines joined to a text, by both sides. -/
import Derived.Test.YtpmflkoepnanoaaDoorVd
import Derived.Test.YtpmflkoepnanoaaDoorXs
import Derived.Test.YtpmflkoepnanoaaDoorTb
import Derived.Test.YtpmflkoepnanoaaDoorDa
namespace Go.Proofs.YtpmflkoepnanoaaDoor
open Go.RowKit
def Shrt (ls : List ByteArray) : Prop := ∀ x ∈ ls, x.size ≤ 1048576
theorem joinL_len {ls : List ByteArray} (h : Shrt ls) : (joinL ls).length ≤ ls.length * 1048577 := by
  induction ls with
  | nil => simp [joinL]
  | cons x t ih =>
    have h1 := h x (by simp)
    have h2 := ih fun y hy => h y (by simp [hy])
    have e : joinL (x :: t) = (x.data.toList ++ [10]) ++ joinL t := by simp [joinL]
    have e2 : (x.data.toList ++ [10]).length = x.size + 1 := by rw [List.length_append, Array.length_toList]; rfl
    have e3 : (x :: t).length * 1048577 = t.length * 1048577 + 1048577 := by rw [List.length_cons, Nat.add_mul, Nat.one_mul]
    rw [e, List.length_append, e2, e3]
    omega
theorem Shrt.take {ls : List ByteArray} (h : Shrt ls) (k : Nat) : Shrt (ls.take k) := fun x hx => h x (List.mem_of_mem_take hx)
theorem nl_mkS (x : ByteArray) : x ++ (⟨#[10]⟩ : ByteArray) = mkS (x.data.toList ++ [10]) := by
  apply ByteArray.ext
  apply Array.toList_inj.1
  simp [mkS]
theorem c_sizeS (v : Value) (xs : List ByteArray) (w : World) (hr : RdS w v xs) : Calls Tryd.prog 38 #[v] w fun e w' => e = .returned (.int .i64 (xs.length : Int)) ∧ w = w' := by
  obtain ⟨A, cap, rfl, hl, hc, _⟩ := hr.open_
  clear hr
  go_enter Tryd.func38, Tryd.ntmps38
  go_wp2
  go_ret
  exact ⟨rfl, rfl⟩
set_option maxHeartbeats 1000000 in
set_option maxRecDepth 20000 in
theorem c_joinLines (v : Value) (ls : List ByteArray) (w : World) (hr : RdS w v ls) (hs : Shrt ls) : Calls Tryd.prog 41 #[v] w fun e w' => e = .returned (.tuple #[.string (joinF ls).1, .int .i64 (joinF ls).2]) ∧ w = w' := by
  obtain ⟨A, cap, rfl, hl, hc, hx⟩ := hr.openS
  have HX := hide hx; have HS := hide hs; clear hx hr hs
  by_cases h2 : 200 < ls.length
  · have hj : joinF ls = (mkS [], 5) := by unfold joinF; rw [if_pos h2]
    rw [hj]
    go_enter Tryd.func41, Tryd.ntmps41
    go_wp2
    go_ret2
    exact ⟨rfl, rfl⟩
  · have hj : joinF ls = (joinS ls, 0) := by unfold joinF; rw [if_neg h2]
    rw [hj]
    clear hj
    generalize hJ : joinS ls = J
    have HJ := hide hJ; clear hJ
    go_enter Tryd.func41, Tryd.ntmps41
    go_wp2
    go_loop [4, 12] (fun o iv => ∃ (k : Nat) (X : ByteArray), k ≤ ls.length ∧ iv = .int .i64 (k : Int) ∧ o = .string X ∧ X = joinS (ls.take k) ∧ X.size ≤ 209715400) (fun _ iv => ls.length - (intOf iv).toNat)
    case atStart => exact ⟨0, mkS [], Nat.zero_le _, rfl, rfl, rfl, by rw [size_mkS]; simp⟩
    case round =>
      obtain ⟨k, X, hk, rfl, rfl, hX, hXs⟩ := hrel
      have HXX := hide hX; clear hX
      by_cases hlt : k < ls.length
      · obtain ⟨b, off, rfl, hb, hcell⟩ := HX.out k ls[k] (List.getElem?_eq_getElem hlt)
        have hsz := HS.out ls[k] (List.getElem_mem hlt)
        have HT := hide (joinL_take (List.getElem?_eq_getElem hlt))
        have HLN := hide (joinL_len (HS.out.take (k + 1)))
        generalize ls[k] = x at *
        have h1 : (⟨#[10]⟩ : ByteArray).size = 1 := rfl
        have h3 : (x ++ (⟨#[10]⟩ : ByteArray)).size ≤ 1048577 := by rw [ByteArray.size_append, h1]; omega
        go_wp2
        go_round
        case rel => exact ⟨k + 1, X ++ (x ++ ⟨#[10]⟩), by omega, by go_num, rfl, by rw [HXX.out, nl_mkS]; unfold joinS; rw [mkS_append, HT.out], by have := HLN.out; rw [HT.out] at this; rw [HXX.out, nl_mkS]; unfold joinS; rw [mkS_append, size_mkS]; rw [List.length_take] at this; have : min (k + 1) ls.length * 1048577 ≤ 200 * 1048577 := Nat.mul_le_mul_right _ (by omega); omega⟩
        case measure => simp [intOf]; omega
      · have hXJ : X = J := by rw [HXX.out, List.take_of_length_le (by omega), HJ.out]
        have HXJ := hide hXJ; clear hXJ
        go_wp2
        go_ret2
        rw [HXJ.out]
        exact ⟨rfl, rfl⟩
set_option maxHeartbeats 1000000 in
set_option maxRecDepth 20000 in
theorem c_l32Join (v : Value) (ls : List ByteArray) (w : World) (hr : RdS w v ls) (hs : Shrt ls) : Calls Tryd.prog 33 #[v] w fun e w' => e = .returned (.tuple #[.string (joinF ls).1, .int .i64 (joinF ls).2]) ∧ Below w.heap.size w w' := by
  obtain ⟨A, cap, rfl, hl, hc, hx⟩ := hr.openS
  have HX := hide hx; have HS := hide hs; clear hx hr hs
  by_cases h2 : 200 < ls.length
  · have hj : joinF ls = (mkS [], 5) := by unfold joinF; rw [if_pos h2]
    rw [hj]
    go_enter Tryd.func33, Tryd.ntmps33
    go_wp2
    go_ret2
    exact ⟨rfl, Below.refl _ _⟩
  · have hj : joinF ls = (joinS ls, 0) := by unfold joinF; rw [if_neg h2]
    rw [hj]
    clear hj
    generalize hJ : joinS ls = J
    have HJ := hide hJ; clear hJ
    go_enter Tryd.func33, Tryd.ntmps33
    go_wp2
    go_loopw [4, 5] (fun o iv wr => ∃ (k : Nat) (X : List UInt8), k ≤ ls.length ∧ iv = .int .i64 (k : Int) ∧ X = joinL (ls.take k) ∧ X.length ≤ 209715400 ∧ OwY 5 wr w.heap.size o X ∧ Below w.heap.size w wr) (fun _ iv _ => ls.length - (intOf iv).toNat)
    case atStart => exact ⟨0, [], Nat.zero_le _, rfl, rfl, by simp, new_u8 w, (Below.refl _ _).alloc (Nat.le_refl _) _⟩
    case round =>
      obtain ⟨k, X, hk, rfl, hX, hXs, ho, hb⟩ := hrel
      have HXX := hide hX; have HO := hide ho; have HB := hide hb; have hsz2 := hb.size; clear hX hb
      by_cases hlt : k < ls.length
      · obtain ⟨b, off, rfl, hbw, hcell⟩ := HX.out k ls[k] (List.getElem?_eq_getElem hlt)
        have hcell2 := (HB.out.cell hbw).trans hcell
        have hsz := HS.out ls[k] (List.getElem_mem hlt)
        have HT := hide (joinL_take (List.getElem?_eq_getElem hlt))
        have HLN := hide (joinL_len (HS.out.take (k + 1)))
        generalize ls[k] = x at *
        have h1 : (⟨#[10]⟩ : ByteArray).size = 1 := rfl
        have h3 : (x ++ (⟨#[10]⟩ : ByteArray)).size ≤ 1048577 := by rw [ByteArray.size_append, h1]; omega
        have h4 : X.length + (x ++ (⟨#[10]⟩ : ByteArray)).size ≤ 140737488355328 := by omega
        clear hcell ho
        go_wp2_with (at_builtin; refine app_string rfl _ _ _ _ rfl w.heap.size 5 (.int .u8 0) Tryd.underlying22 Tryd.underlying9 info_u8 rfl _ X rfl HO.out _ rfl h4 hsz2 ?_; intro v1 w1 ho1 hg1 hv1; have hb1 := below_own HB.out HO.out hg1 (Nat.le_refl _) hsz2; have HO1 := hide ho1; have HB1 := hide hb1; clear ho1 hb1 hg1 hv1)
        go_roundw
        case rel => exact ⟨k + 1, X ++ (x ++ (⟨#[10]⟩ : ByteArray)).data.toList, by omega, by go_num, by rw [HXX.out, nl_mkS, data_mkS, HT.out], by have := HLN.out; rw [HT.out] at this; rw [HXX.out, nl_mkS, data_mkS]; rw [List.length_take] at this; have : min (k + 1) ls.length * 1048577 ≤ 200 * 1048577 := Nat.mul_le_mul_right _ (by omega); omega, HO1.out, HB1.out⟩
        case measure => simp [intOf]; omega
      · have hc := str_of ho.rd
        have hXJ : mkS X = J := by rw [HXX.out, List.take_of_length_le (by omega), ← HJ.out]; rfl
        have HXJ := hide hXJ; clear hXJ ho
        go_wp2
        go_ret2
        rw [HXJ.out]
        exact ⟨rfl, HB.out⟩
end Go.Proofs.YtpmflkoepnanoaaDoor
