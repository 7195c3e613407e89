/- Contracts: bytes as bits. -/
import Derived.Test.YtpmflkoepnanoaaHc
import Derived.Test.YtpmflkoepnanoaaDb
namespace Go.Proofs.Ytpmflkoepnanoaa
open Go.RowKit
set_option maxHeartbeats 1000000 in
set_option maxRecDepth 100000 in
theorem c_unpacked (s : ByteArray) (w : World) (hs : s.size ≤ 1073741824) : Calls Try.prog 122 #[.string s] w fun e w' => e = .returned (.string (mkS (unpkL s))) ∧ Below w.heap.size w w' := by
  go_enter Try.func122, Try.ntmps122
  go_wp2
  go_loopw [9] (fun i wr => ∃ j : Nat, j ≤ s.size ∧ i = .int .i64 j ∧ Bu wr w.heap.size w.heap.size (unpkTo s j) ∧ Below w.heap.size w wr) (fun i _ => s.size - (intOf i).toNat)
  case atStart => exact ⟨0, Nat.zero_le _, rfl, Bu.new w, (Below.refl _ _).alloc (Nat.le_refl _) _⟩
  case round =>
    obtain ⟨j, hj, rfl, ho, hb⟩ := hrel
    have HO := hide ho; have HB := hide hb; have hsz := hb.size; clear ho hb
    have HL := length_unpkTo s j
    by_cases hlt : j < s.size
    · have hg := bA_get hlt
      have hl8 := bA_lt s j
      go_wp2_with fail
      refine (c_digits _ 8 _ (by omega) (by omega)).mono ?_; rintro e w2 ⟨rfl, hb2⟩
      have HB2 := hide hb2; clear hb2
      go_wp2_with fail
      refine (bu_write (HO.out.below HB2.out) (by rw [size_mkS, length_digL]; omega) (by have := HB2.out.size; omega)).mono ?_; rintro e w3 ⟨rfl, hu, hb3⟩
      have HU := hide hu; have HB3 := hide ((HB.out.trans (HB2.out.mono hsz)).trans hb3); clear hu hb3
      go_wp2
      go_roundw
      case rel => exact ⟨j + 1, by omega, by go_num, HU.out, HB3.out⟩
      case measure => first | (simp [intOf]; done) | (simp [intOf]; omega)
    · obtain rfl : j = s.size := by omega
      go_wp2_with fail
      refine (bu_string HO.out hsz).mono ?_; rintro e w3 ⟨rfl, hb3⟩
      have HB3 := hide (HB.out.trans hb3); clear hb3
      go_wp2
      go_ret
      exact ⟨rfl, HB3.out⟩
/-- The bits are a text of 0 and 1. -/
theorem bits_unpk (s : ByteArray) : Bits (mkS (unpkL s)).data.toList := by rw [data_mkS]; exact bits_unpkTo s s.size
theorem size_unpk (s : ByteArray) : (mkS (unpkL s)).size = 8 * s.size := by rw [size_mkS]; exact length_unpkTo s s.size
end Go.Proofs.Ytpmflkoepnanoaa
