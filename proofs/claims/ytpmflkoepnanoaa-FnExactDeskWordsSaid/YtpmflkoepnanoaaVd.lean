/- Contracts: the lines of a text by the reference; marks in slices of strings. -/
import Derived.Test.YtpmflkoepnanoaaVc
import Derived.Test.YtpmflkoepnanoaaTd
import Derived.Test.YtpmflkoepnanoaaUh
namespace Go.Proofs.Ytpmflkoepnanoaa
open Go.RowKit
theorem parts_last (s : ByteArray) : (partsB 10 s)[s.data.toList.count 10]? = some (mkS (lastF s)) := by
  unfold partsB lastF
  rw [List.getElem?_map]
  have h := length_partsL 10 s.data.toList
  rw [List.getLast_eq_getElem, List.getElem?_eq_getElem (by omega)]
  simp only [h, Nat.add_sub_cancel, Option.map_some]
theorem empty_mkS (l : List UInt8) : (mkS l).toList.isEmpty = decide (l = []) := by
  rw [toList_eq, data_mkS]; cases l <;> rfl
/-- The texts with which a slice of strings is marked. -/
def mrks (k n : Nat) : List ByteArray := (List.range n).map fun i => mrkB (k + i)
theorem length_mrks (k n : Nat) : (mrks k n).length = n := by simp [mrks]
theorem mrks_at {k n i : Nat} (h : i < n) : (mrks k n)[i]? = some (mrkB (k + i)) := by simp [mrks, h]
set_option maxHeartbeats 1000000 in
set_option maxRecDepth 20000 in
theorem c_markStringS (B : Nat) (v : Value) (xs : List ByteArray) (m : Nat) (w : World) (ho : OwS 9 w B v xs) (h0 : 0 < m) (hm : m + xs.length ≤ 4611686018427387904) (hB : B ≤ w.heap.size) :
    Calls Try.prog 9 #[v, .int .i64 m] w fun e w' => e = .returned (.int .i64 ((m + xs.length : Nat) : Int)) ∧ OwS 9 w' B v (mrks m xs.length) ∧ Below B w w' := by
  rcases Nat.eq_zero_or_pos xs.length with hz | hz
  · have hx : xs = [] := List.eq_nil_of_length_eq_zero hz
    subst hx
    obtain ⟨A, cap, rfl, hl, hc, _⟩ := ho.rd.open_
    have HO := hide ho; clear ho hz
    simp only [List.length_nil] at *
    go_enter Try.func9, Try.ntmps9
    go_wp2
    refine wp_loop_rounds 1 ?_
    rw [rounds_succ]
    go_wp2
    go_ret
    exact ⟨by simp, by simpa [mrks] using HO.out, Below.refl _ _⟩
  · obtain ⟨g, cap, rfl, hl, hg, hgw⟩ := ho.form hz
    have HO := hide ho; clear ho
    go_enter Try.func9, Try.ntmps9
    go_wp2
    go_loopw [1, 5] (fun t i wr => ∃ k : Nat, k ≤ xs.length ∧ i = .int .i64 k ∧ t = .int .i64 ((m + k : Nat) : Int) ∧ OwS 9 wr B (.slice (some ⟨g, 0, none⟩) xs.length cap) ((mrks m xs.length).take k ++ xs.drop k) ∧ Below B w wr) (fun _ i _ => xs.length - (intOf i).toNat)
    case atStart => exact ⟨0, Nat.zero_le _, rfl, rfl, by simpa using HO.out, Below.refl _ _⟩
    case round =>
      obtain ⟨k, hk, rfl, rfl, ho, hb⟩ := hrel
      have HO := hide ho; have HB := hide hb; have hsz : B ≤ wr.heap.size := Nat.le_trans hB hb.size; clear ho hb
      by_cases hlt : k < xs.length
      · have HM := hide (getElem?_mix (length_mrks m xs.length) hlt)
        have HX := hide (List.getElem?_eq_getElem hlt)
        have HSM := hide (set_mix (length_mrks m xs.length) (mrks_at (k := m) hlt))
        generalize xs[k] = x at *
        go_wp2_with (go_at_call 31; refine (c_markText (m + k) _ (by omega) (by omega)).mono ?_; rintro e w2 ⟨rfl, hb2⟩; have ho2 := HO.out.all hb2; have HB2 := hide (bthen HB.out hsz hb2); have hk2 := ho2.cellN (HM.out.trans HX.out) (j := 0) rfl; rw [Nat.mul_one, Nat.add_zero] at hk2; have hk3 := ho2.freeN k; have HO2 := hide ho2; clear ho2 hb2)
        go_roundw
        case rel => exact ⟨k + 1, by omega, by go_num, by go_num, by have := (OwS_set HO2.out k (mrkB (m + k))).1; rw [HSM.out] at this; exact this, HB2.out.setCell hg _⟩
        case measure => simp [intOf]; omega
      · go_wp2
        go_ret
        have : k = xs.length := by omega
        subst this
        exact ⟨rfl, by have := HO.out; rw [List.take_of_length_le (by simp [length_mrks]), List.drop_length, List.append_nil] at this; exact this, HB.out⟩
end Go.Proofs.Ytpmflkoepnanoaa
