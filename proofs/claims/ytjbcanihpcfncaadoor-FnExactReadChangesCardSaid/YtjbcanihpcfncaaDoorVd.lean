/- Contracts: the lines of a text by the reference; marks in slices of strings. -/
import Derived.Test.YtjbcanihpcfncaaDoorVc
import Derived.Test.YtjbcanihpcfncaaDoorTd
import Derived.Test.YtjbcanihpcfncaaDoorUh
namespace Go.Proofs.YtjbcanihpcfncaaDoor
open Go.RowKit
theorem c_split10 (s : ByteArray) (w : World) (hs : s.size ≤ 1048576) : Calls Tryd.prog 20 #[.string s, .int .u8 10] w fun e w' => ∃ v, e = .returned v ∧ OwS 9 w' w.heap.size v (partsB 10 s) ∧ Below w.heap.size w w' := c_l01Split 10 s w hs
theorem parts_last (s : ByteArray) : (partsB 10 s)[s.data.toList.count 10]? = some (mkS (lastF s)) := by
  unfold partsB lastF
  rw [List.getElem?_map]
  have h := length_partsL 10 s.data.toList
  rw [List.getLast_eq_getElem, List.getElem?_eq_getElem (by omega)]
  simp only [h, Nat.add_sub_cancel, Option.map_some]
theorem empty_mkS (l : List UInt8) : (mkS l).toList.isEmpty = decide (l = []) := by
  rw [toList_eq, data_mkS]; cases l <;> rfl
set_option maxHeartbeats 1000000 in
set_option maxRecDepth 20000 in
theorem c_l32Lines (s : ByteArray) (w : World) (hs : s.size ≤ 1048576) : Calls Tryd.prog 9 #[.string s] w fun e w' => ∃ v, e = .returned (.tuple #[v, .bool (decide (lastF s = []))]) ∧ OwS 9 w' w.heap.size v (linesF s) ∧ Below w.heap.size w w' := by
  have hl := length_partsB 10 s
  have hlt := linesF_take s
  have hn := count_le s
  have hla := parts_last s
  have hem := empty_mkS (lastF s)
  generalize hN : s.data.toList.count 10 = N at *
  generalize hP : partsB 10 s = ps at *
  generalize hL : linesF s = ls at *
  generalize hX : mkS (lastF s) = x at *
  generalize hB : decide (lastF s = []) = B at *
  have HP := hide hP; have HL := hide hL; have HLT := hide hlt; have HPL := hide hl; have HLA := hide hla; clear hP hL hlt hN hX hB hla
  go_enter Tryd.func9, Tryd.ntmps9
  go_wp2_with fail
  refine (c_split10 s _ hs).mono ?_; rintro e w1 ⟨v, rfl, ho, hb⟩
  rw [HP.out] at ho
  obtain ⟨g, cap, rfl, hcap, hg, hgs⟩ := ho.form (by omega)
  have hcl := ho.cellN HLA.out (j := 0) (u := .string x) rfl
  rw [Nat.mul_one, Nat.add_zero] at hcl
  have hcp := (cap_of ho.rd rfl).2.2
  rw [hl] at ho hcap
  have hwr : IntKind.i64.wrap (N : Int) = (N : Int) := IntWalk.i64_in _ (by omega)
  have HO := hide ho; have HB := hide hb; clear ho hb
  have hx0 : ps.length = N + 1 := hl
  rw [hx0]
  clear hl hx0
  go_wp2
  go_quiet (fail)
  go_wp2
  go_ret2
  exact ⟨_, rfl, by rw [HLT.out]; exact HO.out.cut (by rw [HPL.out]; omega), below_drewN HB.out _⟩
/-- The texts with which a slice of strings is marked. -/
def mrks (k n : Nat) : List ByteArray := (List.range n).map fun i => mrkB (k + i)
theorem length_mrks (k n : Nat) : (mrks k n).length = n := by simp [mrks]
theorem mrks_at {k n i : Nat} (h : i < n) : (mrks k n)[i]? = some (mrkB (k + i)) := by simp [mrks, h]
end Go.Proofs.YtjbcanihpcfncaaDoor
