/- Contracts: check values, two bytes, the head of a store. -/
import Derived.Test.YtpmflkoepnanoaaGreatAe
import Derived.Deep.RegionWith
namespace Go.Proofs.YtpmflkoepnanoaaGreat
open Go.RowKit
set_option maxHeartbeats 800000 in
set_option maxRecDepth 100000 in
theorem c_l01Crc (s : ByteArray) (x : Nat) (w : World) (hs : s.size ≤ 1073741824) (hx : x < 65536) : Calls Tryz.prog 93 #[.string s, .int .i64 (x : Int)] w fun e w' => e = .returned (.int .i64 ((crcF s.data.toList x : Nat) : Int)) ∧ w = w' := by
  go_enter Tryz.func93, Tryz.ntmps93
  go_wp2
  go_loop [1, 5] (fun c i => ∃ k cur : Nat, k ≤ s.size ∧ i = .int .i64 k ∧ c = .int .i64 (cur : Int) ∧ cur < 65536 ∧ crcF (s.data.toList.drop k) cur = crcF s.data.toList x) (fun _ i => s.size - (intOf i).toNat)
  case atStart => exact ⟨0, x, Nat.zero_le _, rfl, rfl, hx, rfl⟩
  case round =>
    obtain ⟨k, cur, hk, rfl, rfl, hc, hr⟩ := hrel
    have HR := hide hr; clear hr
    by_cases hlt : k < s.size
    · have hb := bA_lt s k
      have hg := bA_get hlt
      have e1 : IntKind.i64.wrap ((bA s k : Int) * 256) = (bA s k : Int) * 256 := IntWalk.i64_in _ (by omega)
      have e2 : bits .xor .i64 (cur : Int) ((bA s k : Int) * 256) = ((cur ^^^ (bA s k * 256) : Nat) : Int) := by rw [← bits_xor_nat _ _ (by omega) (by omega)]; simp
      have hin := crcIn_lt hc hb
      have HG : Sec (s.data.toList[k]? = some (s.data.toList.getD k 0)) := by
        refine ⟨?_⟩
        have h' : k < s.data.toList.length := by rw [Array.length_toList]; exact hlt
        rw [List.getD_eq_getElem?_getD, List.getElem?_eq_getElem h']; rfl
      generalize hy : cur ^^^ (bA s k * 256) = y at *
      have HY := hide hy; clear hy
      go_wp2
      go_loop [1, 6, 7] (fun c j hi => ∃ m cur2 : Nat, m ≤ 8 ∧ j = .int .i64 (m : Int) ∧ c = .int .i64 (cur2 : Int) ∧ cur2 < 65536 ∧ crcBits (8 - m) cur2 = crcBits 8 y) (fun _ j _ => 8 - (intOf j).toNat)
      case atStart => exact ⟨0, y, by omega, rfl, rfl, hin, rfl⟩
      case round =>
        obtain ⟨m, cur2, hm, rfl, rfl, hc2, hr2⟩ := hrel
        have HR2 := hide hr2; clear hr2
        by_cases hm8 : m < 8
        · have HS : Sec (crcBits (8 - (m + 1)) (crcBit cur2) = crcBits 8 y) := by
            refine ⟨?_⟩
            have := HR2.out
            rw [show 8 - m = (8 - (m + 1)) + 1 by omega] at this
            exact this
          have hlt2 := crcBit_lt hc2
          have f1 : IntKind.i64.wrap ((cur2 : Int) * 2) = (cur2 : Int) * 2 := IntWalk.i64_in _ (by omega)
          have f2 : bits .and .i64 ((cur2 : Int) * 2) 65535 = (((cur2 * 2) % 65536 : Nat) : Int) := by rw [and_16]; omega
          by_cases hbig : 32768 ≤ cur2
          · have f3 : bits .xor .i64 (((cur2 * 2) % 65536 : Nat) : Int) 4129 = ((crcBit cur2 : Nat) : Int) := by
              have := bits_xor_nat ((cur2 * 2) % 65536) 4129 (by omega) (by omega)
              rw [show ((4129 : Nat) : Int) = 4129 from rfl] at this
              rw [this]; unfold crcBit; rw [if_pos hbig, Nat.mul_comm]
            generalize hz : (cur2 * 2) % 65536 = z at *
            have HZ := hide hz; clear hz
            have h3 : (32768 : Int) ≤ (cur2 : Int) := by omega
            go_wp2
            go_round
            case rel => exact ⟨m + 1, crcBit cur2, by omega, by go_num, rfl, hlt2, HS.out⟩
            case measure => first | (simp [intOf]; done) | (simp [intOf]; omega)
          · have f3 : (((cur2 * 2) % 65536 : Nat) : Int) = ((crcBit cur2 : Nat) : Int) := by unfold crcBit; rw [if_neg hbig]; omega
            have F3 := hide f3; clear f3
            generalize hz : (cur2 * 2) % 65536 = z at *
            have HZ := hide hz; clear hz
            have h3 : ¬ (32768 : Int) ≤ (cur2 : Int) := by omega
            go_wp2
            go_round
            case rel => exact ⟨m + 1, crcBit cur2, by omega, by go_num, by rw [F3.out], hlt2, HS.out⟩
            case measure => first | (simp [intOf]; done) | (simp [intOf]; omega)
        · have h8 : m = 8 := by omega
          subst h8
          go_wp2
          go_round
          case rel => exact ⟨k + 1, cur2, by omega, by go_num, rfl, hc2, by rw [← HR.out, crcF_drop HG.out]; congr 1; have := HR2.out; rw [show 8 - 8 = 0 from rfl] at this; show cur2 = crcBits 8 (cur ^^^ (bA s k * 256)); rw [HY.out]; exact this⟩
          case measure => first | (simp [intOf]; done) | (simp [intOf]; omega)
    · go_wp2
      go_ret
      have hkk : s.data.toList.drop k = [] := List.drop_eq_nil_of_le (by rw [Array.length_toList]; show s.size ≤ k; omega)
      exact ⟨ret_int (by rw [← HR.out, hkk]; rfl), rfl⟩
end Go.Proofs.YtpmflkoepnanoaaGreat
