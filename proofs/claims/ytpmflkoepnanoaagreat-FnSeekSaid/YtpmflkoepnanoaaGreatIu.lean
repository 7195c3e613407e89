/- Contracts: bytes as bits. -/
import Derived.Test.YtpmflkoepnanoaaGreatHc
import Derived.Test.YtpmflkoepnanoaaGreatDb
namespace Go.Proofs.YtpmflkoepnanoaaGreat
open Go.RowKit
set_option maxHeartbeats 1000000 in
set_option maxRecDepth 100000 in
theorem c_l29Unpack (s : ByteArray) (w : World) (hs : s.size ≤ 1073741824) : Calls Tryz.prog 102 #[.string s] w fun e w' => e = .returned (.string (mkS (unpkL s))) ∧ Below w.heap.size w w' := by
  go_enter Tryz.func102, Tryz.ntmps102
  go_wp2
  go_loopw [3, 4] (fun t i wr => ∃ j : Nat, j ≤ s.size ∧ i = .int .i64 j ∧ OwY 5 wr w.heap.size t (unpkTo s j) ∧ Below w.heap.size w wr) (fun _ i _ => s.size - (intOf i).toNat)
  case atStart => exact ⟨0, Nat.zero_le _, rfl, new_u8 w, (Below.refl _ _).alloc (Nat.le_refl _) _⟩
  case round =>
    obtain ⟨j, hj, rfl, ho, hb⟩ := hrel
    have HO := hide ho; have HB := hide hb; have hsz := hb.size; clear ho hb
    have HL := length_unpkTo s j
    by_cases hlt : j < s.size
    · have hg := bA_get hlt
      have hl8 := bA_lt s j
      go_wp2_with fail
      refine (c_l29Number _ 8 _ (by omega) (by omega)).mono ?_; rintro e w3 ⟨v3, rfl, ho3, hb3⟩
      have HO3 := hide ho3; have HB3 := hide (HB.out.trans (hb3.mono hsz)); have HO4 := hide (own_all HO.out hb3); have hsz3 := HB3.out.size; clear ho3 hb3
      go_wp2_with (at_builtin; refine appm_u8 rfl _ _ rfl rfl HO4.out rfl HO3.out.rd (by simp [length_digL]; omega) hsz3 ?_; intro v5 w5 ho5 hg5 hv5; have hb5 := below_own HB3.out HO4.out hg5 (Nat.le_refl _) hsz3; have HO5 := hide ho5; have HB5 := hide hb5; clear ho5 hb5 hg5 hv5)
      go_roundw
      case rel => exact ⟨j + 1, by omega, by go_num, HO5.out, HB5.out⟩
      case measure => first | (simp [intOf]; done) | (simp [intOf]; omega)
    · obtain rfl : j = s.size := by omega
      have hc := str_of HO.out.rd
      go_wp2
      go_ret
      exact ⟨rfl, HB.out⟩
set_option maxHeartbeats 1000000 in
set_option maxRecDepth 100000 in
theorem c_unpacked (s : ByteArray) (w : World) (hs : s.size ≤ 1073741824) : Calls Tryz.prog 72 #[.string s] w fun e w' => e = .returned (.string (mkS (unpkL s))) ∧ Below w.heap.size w w' := by
  go_enter Tryz.func72, Tryz.ntmps72
  go_wp2
  go_loopw [9] (fun i wr => ∃ j : Nat, j ≤ s.size ∧ i = .int .i64 j ∧ Bu wr w.heap.size w.heap.size (unpkTo s j) ∧ Below w.heap.size w wr) (fun i _ => s.size - (intOf i).toNat)
  case atStart => exact ⟨0, Nat.zero_le _, rfl, Bu.new w, (Below.refl _ _).alloc (Nat.le_refl _) _⟩
  case round =>
    obtain ⟨j, hj, rfl, ho, hb⟩ := hrel
    have HO := hide ho; have HB := hide hb; have hsz := hb.size; clear ho hb
    have HL := length_unpkTo s j
    by_cases hlt : j < s.size
    · have hg := bA_get hlt
      have hl8 := bA_lt s j
      go_wp2_with fail
      refine (c_digits _ 8 _ (by omega) (by omega)).mono ?_; rintro e w2 ⟨rfl, hb2⟩
      have HB2 := hide hb2; clear hb2
      go_wp2_with fail
      refine (bu_write (HO.out.below HB2.out) (by rw [size_mkS, length_digL]; omega) (by have := HB2.out.size; omega)).mono ?_; rintro e w3 ⟨rfl, hu, hb3⟩
      have HU := hide hu; have HB3 := hide ((HB.out.trans (HB2.out.mono hsz)).trans hb3); clear hu hb3
      go_wp2
      go_roundw
      case rel => exact ⟨j + 1, by omega, by go_num, HU.out, HB3.out⟩
      case measure => first | (simp [intOf]; done) | (simp [intOf]; omega)
    · obtain rfl : j = s.size := by omega
      go_wp2_with fail
      refine (bu_string HO.out hsz).mono ?_; rintro e w3 ⟨rfl, hb3⟩
      have HB3 := hide (HB.out.trans hb3); clear hb3
      go_wp2
      go_ret
      exact ⟨rfl, HB3.out⟩
/-- The bits are a text of 0 and 1. -/
theorem bits_unpk (s : ByteArray) : Bits (mkS (unpkL s)).data.toList := by rw [data_mkS]; exact bits_unpkTo s s.size
theorem size_unpk (s : ByteArray) : (mkS (unpkL s)).size = 8 * s.size := by rw [size_mkS]; exact length_unpkTo s s.size
end Go.Proofs.YtpmflkoepnanoaaGreat
