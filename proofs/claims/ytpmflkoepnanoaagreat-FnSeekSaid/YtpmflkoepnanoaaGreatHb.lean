/- Contracts: sums in place, the other side. -/
import Derived.Test.YtpmflkoepnanoaaGreatHa
namespace Go.Proofs.YtpmflkoepnanoaaGreat
open Go.RowKit
set_option maxHeartbeats 1000000 in
set_option maxRecDepth 100000 in
theorem c_l29Restore (v : Value) (xs : List Int) (m : Nat) (w : World) (hr : RdI w v xs) (hs : ∀ x ∈ xs, Smp x) (hn : xs.length ≤ 1048576) (hm : m ≤ 3) : Calls Tryz.prog 104 #[v, .int .i64 (m : Int)] w fun e w' => ∃ v', e = .returned v' ∧ OwI 2 w' w.heap.size v' (restF m xs) ∧ Below w.heap.size w w' := by
  have HR := hide hr; clear hr
  have HS := hide hs; clear hs
  go_enter Tryz.func104, Tryz.ntmps104
  go_wp2_with (go_at_call 110; refine (c_l00Own _ _ _ HR.out hn).mono ?_; rintro e w1 ⟨v1, rfl, ho1, hb1⟩; obtain ⟨A, cap, rfl, hl, hc, _⟩ := ho1.rd.open_; have HO1 := hide ho1; have HB1 := hide hb1; clear ho1 hb1)
  go_loopw [1] (fun i wr => ∃ (k : Nat) (ys : List Int), k ≤ 3 ∧ i = .int .i64 k ∧ OwI 2 wr w.heap.size (.slice A xs.length cap) ys ∧ ys.length = xs.length ∧ (∀ y ∈ ys, Smp y) ∧ restF k ys = restF m xs ∧ Below w.heap.size w wr) (fun i _ => (intOf i).toNat)
  case atStart => exact ⟨m, xs, hm, rfl, HO1.out, rfl, HS.out, rfl, HB1.out⟩
  case round =>
    obtain ⟨k, ys, hk, rfl, ho, hlen, hsy, hp, hb⟩ := hrel
    have HO := hide ho; have HB := hide hb; have HL := hide hlen; have HP := hide hp; have HSY := hide hsy; clear ho hb hp hsy
    by_cases hlt : 0 < k
    · go_wp2_with fail
      go_loopw [6, 7] (fun c i wi => ∃ j : Nat, j ≤ xs.length ∧ i = .int .i64 j ∧ c = .int .i64 (sumN ys j) ∧ OwI 2 wi w.heap.size (.slice A xs.length cap) ((sumL ys).take j ++ ys.drop j) ∧ Below w.heap.size w wi) (fun _ i _ => xs.length - (intOf i).toNat)
      case atStart => exact ⟨0, Nat.zero_le _, rfl, rfl, by simpa using HO.out, HB.out⟩
      case round =>
        obtain ⟨j, hj, rfl, rfl, ho2, hb2⟩ := hrel
        have HO2 := hide ho2; have HB2 := hide hb2; clear ho2 hb2
        by_cases hjl : j < xs.length
        · have hyl : ys.length = xs.length := HL.out
          have hjy : j < ys.length := by omega
          have hmx : ((sumL ys).take j ++ ys.drop j)[j]? = some ys[j] := by
            rw [getElem?_mix (length_sumL _) hjy]; exact List.getElem?_eq_getElem hjy
          have hlm : ((sumL ys).take j ++ ys.drop j).length = xs.length := by simp [length_sumL]; omega
          obtain ⟨g, cap', he, _, hgw, _⟩ := HO2.out.form (by omega)
          rw [hlm] at he
          simp only [Value.slice.injEq, true_and] at he
          obtain ⟨rfl, rfl⟩ := he
          have h3 := HO2.out.cellN hmx
          have h4 := HO2.out.freeN j
          have hset := HO2.out.setN j (sumN ys (j + 1))
          rw [set_mix (length_sumL _) (sumL_at hjy)] at hset
          have HST := hide hset
          have HSN := hide (sumN_succ hjy)
          have HY := hide (HSY.out ys[j] (List.getElem_mem _))
          have HZ := hide (sumN_smp ys j)
          clear hset hmx hlm
          generalize sumN ys j = c at *
          generalize hc1 : sumN ys (j + 1) = c1 at *
          generalize ys[j] = y at *
          go_wp2_with fail
          refine (c_l01Add _ _ _ HZ.out HY.out).mono ?_; rintro e w' ⟨rfl, rfl⟩; rw [← HSN.out]
          go_wp2_with fail
          go_roundw
          case rel => exact ⟨j + 1, by omega, by go_num, by rw [hc1], HST.out, HB2.out.setCell hgw _⟩
          case measure => simp [intOf]; omega
        · go_wp2_with fail
          obtain rfl : j = xs.length := by omega
          go_roundw
          case rel => exact ⟨k - 1, sumL ys, by omega, by go_num, by have := HO2.out; rw [← HL.out, List.take_of_length_le (by simp [length_sumL]), List.drop_length, List.append_nil, HL.out] at this; exact this, by rw [length_sumL]; exact HL.out, sumL_smp ys, by rw [← HP.out]; obtain ⟨q, rfl⟩ : ∃ q, k = q + 1 := ⟨k - 1, by omega⟩; rfl, HB2.out⟩
          case measure => simp [intOf]; omega
    · go_wp2
      go_ret
      obtain rfl : k = 0 := by omega
      exact ⟨_, rfl, by have := HP.out; rw [← this]; exact HO.out, HB.out⟩
end Go.Proofs.YtpmflkoepnanoaaGreat
