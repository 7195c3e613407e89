/- Contracts: the check value of the program, words, sealed texts, heads of stores. -/
import Derived.Test.YtpmflkoepnanoaaGreatBa
namespace Go.Proofs.YtpmflkoepnanoaaGreat
open Go.RowKit
set_option maxHeartbeats 800000 in
set_option maxRecDepth 100000 in
theorem c_Crc16 (s : ByteArray) (x : Nat) (w : World) (hs : s.size ≤ 1073741824) (hx : x < 65536) : Calls Tryz.prog 69 #[.string s, .int .i64 (x : Int)] w fun e w' => e = .returned (.int .i64 ((crcF s.data.toList x : Nat) : Int)) ∧ w = w' := by
  have hib : inB (x : Int) 0 65535 = true := inB_true.2 (by omega)
  go_enter Tryz.func69, Tryz.ntmps69
  go_wp2_with (go_at_call 25; refine (c_within _ _ _ _).mono ?_; rintro e w' ⟨rfl, rfl⟩)
  go_loop [5, 6] (fun c i => ∃ k cur : Nat, k ≤ s.size ∧ i = .int .i64 k ∧ c = .int .i64 (cur : Int) ∧ cur < 65536 ∧ crcF (s.data.toList.drop k) cur = crcF s.data.toList x) (fun _ i => s.size - (intOf i).toNat)
  case atStart => exact ⟨0, x, Nat.zero_le _, rfl, rfl, hx, rfl⟩
  case round =>
    obtain ⟨k, cur, hk, rfl, rfl, hc, hr⟩ := hrel
    have HR := hide hr; clear hr
    by_cases hlt : k < s.size
    · have hb := bA_lt s k
      have hg := bA_get hlt
      have e1 : IntKind.i64.wrap ((bA s k : Int) * 256) = (bA s k : Int) * 256 := IntWalk.i64_in _ (by omega)
      have e2 : bits .xor .i64 (cur : Int) ((bA s k : Int) * 256) = ((cur ^^^ (bA s k * 256) : Nat) : Int) := by rw [← bits_xor_nat _ _ (by omega) (by omega)]; simp
      have hin := crcIn_lt hc hb
      have HG : Sec (s.data.toList[k]? = some (s.data.toList.getD k 0)) := by
        refine ⟨?_⟩
        have h' : k < s.data.toList.length := by rw [Array.length_toList]; exact hlt
        rw [List.getD_eq_getElem?_getD, List.getElem?_eq_getElem h']; rfl
      generalize hy : cur ^^^ (bA s k * 256) = y at *
      have HY := hide hy; clear hy
      go_wp2
      go_loop [5, 7] (fun c j => ∃ m cur2 : Nat, m ≤ 8 ∧ j = .int .i64 (m : Int) ∧ c = .int .i64 (cur2 : Int) ∧ cur2 < 65536 ∧ crcBits (8 - m) cur2 = crcBits 8 y) (fun _ j => 8 - (intOf j).toNat)
      case atStart => exact ⟨0, y, by omega, rfl, rfl, hin, rfl⟩
      case round =>
        obtain ⟨m, cur2, hm, rfl, rfl, hc2, hr2⟩ := hrel
        have HR2 := hide hr2; clear hr2
        by_cases hm8 : m < 8
        · have HS : Sec (crcBits (8 - (m + 1)) (crcBit cur2) = crcBits 8 y) := by
            refine ⟨?_⟩
            have := HR2.out
            rw [show 8 - m = (8 - (m + 1)) + 1 by omega] at this
            exact this
          have hlt2 := crcBit_lt hc2
          have f1 : IntKind.i64.wrap ((cur2 : Int) * 2) = (cur2 : Int) * 2 := IntWalk.i64_in _ (by omega)
          by_cases hbig : 32768 ≤ cur2
          · have hzlt : cur2 * 2 ^^^ 4129 < 2 ^ 17 := Nat.xor_lt_two_pow (by omega) (by omega)
            have f3 : bits .xor .i64 ((cur2 : Int) * 2) 4129 = ((cur2 * 2 ^^^ 4129 : Nat) : Int) := by
              rw [← bits_xor_nat _ _ (by omega) (by omega)]; simp
            have F4 : Sec ((cur2 * 2 ^^^ 4129) % 65536 = crcBit cur2) := ⟨crc_big hbig hc2⟩
            generalize hz : cur2 * 2 ^^^ 4129 = z at *
            have HZ := hide hz; clear hz
            have h3 : (32768 : Int) ≤ (cur2 : Int) := by omega
            go_wp2
            go_round
            case rel => exact ⟨m + 1, crcBit cur2, by omega, by go_num, by rw [← F4.out]; simp, hlt2, HS.out⟩
            case measure => first | (simp [intOf]; done) | (simp [intOf]; omega)
          · have F3 : Sec (2 * cur2 = crcBit cur2) := ⟨crc_small hbig⟩
            have h3 : ¬ (32768 : Int) ≤ (cur2 : Int) := by omega
            go_wp2
            go_round
            case rel => exact ⟨m + 1, crcBit cur2, by omega, by go_num, by rw [← F3.out]; simp; omega, hlt2, HS.out⟩
            case measure => first | (simp [intOf]; done) | (simp [intOf]; omega)
        · have h8 : m = 8 := by omega
          subst h8
          go_wp2
          go_round
          case rel => exact ⟨k + 1, cur2, by omega, by go_num, rfl, hc2, by rw [← HR.out, crcF_drop HG.out]; congr 1; have := HR2.out; rw [show 8 - 8 = 0 from rfl] at this; show cur2 = crcBits 8 (cur ^^^ (bA s k * 256)); rw [HY.out]; exact this⟩
          case measure => first | (simp [intOf]; done) | (simp [intOf]; omega)
    · go_wp2
      go_ret
      have hkk : s.data.toList.drop k = [] := List.drop_eq_nil_of_le (by rw [Array.length_toList]; show s.size ≤ k; omega)
      exact ⟨ret_int (by rw [← HR.out, hkk]; rfl), rfl⟩
theorem word_cells (n : Nat) (h : n ≤ 65535) (w : World) : OwY 5 (w.alloc (.cells #[.int .u8 ((n : Int) / 256), .int .u8 ((n : Int) % 256)] 5)) w.heap.size (.slice (some ⟨w.heap.size, 0, none⟩) 2 2) (wordL n) := by
  have e1 : ((UInt8.ofNat (n / 256)).toNat : Int) = (n : Int) / 256 := by simp; omega
  have e2 : ((UInt8.ofNat (n % 256)).toNat : Int) = (n : Int) % 256 := by simp
  have := World.ownsRow_lit (base := w.heap.size) (e := 5) (size := 1) w #[.int .u8 ((n : Int) / 256), .int .u8 ((n : Int) % 256)] 2 (Nat.le_refl _) (by decide) rfl
  unfold OwY wordL
  simp only [List.length_cons, List.length_nil, List.map_cons, List.map_nil, e1, e2]
  exact this
set_option maxHeartbeats 400000 in
set_option maxRecDepth 100000 in
theorem c_l29Word (n : Nat) (w : World) (h : n ≤ 65535) : Calls Tryz.prog 77 #[.int .i64 (n : Int)] w fun e w' => e = .returned (.string (mkS (wordL n))) ∧ Below w.heap.size w w' := by
  have hc := run_str (P := Tryz.prog) (src := 22) (dst := 9) Tryz.underlying22 Tryz.underlying5 Tryz.underlying9 (word_cells n h w).rd
  generalize hm : mkS (wordL n) = r at *
  go_enter Tryz.func77, Tryz.ntmps77
  go_wp2
  go_ret
  exact ⟨rfl, (Below.refl _ _).alloc (Nat.le_refl _) _⟩
set_option maxHeartbeats 400000 in
set_option maxRecDepth 100000 in
theorem c_twoBytes (n : Nat) (w : World) (h : n ≤ 65535) : Calls Tryz.prog 50 #[.int .i64 (n : Int)] w fun e w' => e = .returned (.string (mkS (wordL n))) ∧ Below w.heap.size w w' := by
  have hc := run_str (P := Tryz.prog) (src := 22) (dst := 9) Tryz.underlying22 Tryz.underlying5 Tryz.underlying9 (word_cells n h w).rd
  generalize hm : mkS (wordL n) = r at *
  go_enter Tryz.func50, Tryz.ntmps50
  go_wp2
  go_ret
  exact ⟨rfl, (Below.refl _ _).alloc (Nat.le_refl _) _⟩
/-- A text with its check value. -/
def sealS (s : ByteArray) : ByteArray := s ++ mkS (wordL (crcF s.data.toList 65535))
theorem size_sealS (s : ByteArray) : (sealS s).size = s.size + 2 := by
  unfold sealS
  rw [ByteArray.size_append, size_mkS]; rfl
set_option maxHeartbeats 400000 in
theorem c_l29Seal (s : ByteArray) (w : World) (hs : s.size ≤ 1073741824) : Calls Tryz.prog 76 #[.string s] w fun e w' => e = .returned (.string (sealS s)) ∧ Below w.heap.size w w' := by
  have hl : crcF s.data.toList 65535 < 65536 := crcF_lt _ (by omega)
  have hz : s.size + (mkS (wordL (crcF s.data.toList 65535))).size ≤ 9223372036854775807 := by rw [size_mkS]; simp [wordL]; omega
  generalize hn : crcF s.data.toList 65535 = n at *
  have HN := hide hn; clear hn
  go_enter Tryz.func76, Tryz.ntmps76
  go_wp2_with fail
  refine (c_l01Crc s 65535 _ hs (by omega)).mono ?_; rw [HN.out]; rintro e w1 ⟨rfl, rfl⟩
  go_wp2_with fail
  refine (c_l29Word n _ (by omega)).mono ?_; rintro e w1 ⟨rfl, hb⟩
  have HB := hide hb; clear hb
  go_wp2
  go_ret
  exact ⟨ret_str (by unfold sealS; rw [HN.out]), HB.out⟩
set_option maxHeartbeats 400000 in
theorem c_checked (s : ByteArray) (w : World) (hs : s.size ≤ 1073741824) : Calls Tryz.prog 49 #[.string s] w fun e w' => e = .returned (.string (sealS s)) ∧ Below w.heap.size w w' := by
  have hl : crcF s.data.toList 65535 < 65536 := crcF_lt _ (by omega)
  have hz : s.size + (mkS (wordL (crcF s.data.toList 65535))).size ≤ 9223372036854775807 := by rw [size_mkS]; simp [wordL]; omega
  generalize hn : crcF s.data.toList 65535 = n at *
  have HN := hide hn; clear hn
  go_enter Tryz.func49, Tryz.ntmps49
  go_wp2_with fail
  refine (c_Crc16 s 65535 _ hs (by omega)).mono ?_; rw [HN.out]; rintro e w1 ⟨rfl, rfl⟩
  go_wp2_with fail
  refine (c_twoBytes n _ (by omega)).mono ?_; rintro e w1 ⟨rfl, hb⟩
  have HB := hide hb; clear hb
  go_wp2
  go_ret
  exact ⟨ret_str (by unfold sealS; rw [HN.out]), HB.out⟩
/-- Is the text sealed? -/
def sealedB (s : ByteArray) : Bool := decide (sealS (s.extract 0 (s.size - 2)) = s)
set_option maxHeartbeats 400000 in
theorem c_isChecked (s : ByteArray) (w : World) (h : 2 ≤ s.size) (hs : s.size ≤ 1073741824) : Calls Tryz.prog 31 #[.string s] w fun e w' => e = .returned (.bool (sealedB s)) ∧ Below w.heap.size w w' := by
  have hsz := size_ext0 s (s.size - 2) (by omega)
  have HS := hide hsz; clear hsz
  go_enter Tryz.func31, Tryz.ntmps31
  go_wp2_with fail
  refine (c_checked _ _ (by rw [HS.out]; omega)).mono ?_; rintro e w1 ⟨rfl, hb⟩
  have HB := hide hb; clear hb
  go_wp2
  go_ret
  exact ⟨ret_bool str_eq, HB.out⟩
/-- The number of two bytes. -/
def numS (s : ByteArray) (i : Nat) : Nat := 256 * bA s i + bA s (i + 1)
theorem numS_lt (s : ByteArray) (i : Nat) : numS s i < 65536 := by
  have := bA_lt s i; have := bA_lt s (i + 1); unfold numS; omega
set_option maxHeartbeats 400000 in
theorem c_l29At (s : ByteArray) (n : Nat) (w : World) (h : n + 1 < s.size) (hs : s.size ≤ 1073741824) : Calls Tryz.prog 64 #[.string s, .int .i64 (n : Int)] w fun e w' => e = .returned (.int .i64 ((numS s n : Nat) : Int)) ∧ Dr w w' := by
  have a1 : (n : Int) < (s.size : Int) := by omega
  have a2 : (n : Int) + 1 < (s.size : Int) := by omega
  have a3 : IntKind.i64.wrap ((n : Int) + 1) = (n : Int) + 1 := IntWalk.i64_in _ (by omega)
  have a4 : ((n : Int) + 1).toNat = n + 1 := by omega
  have a5 : (0 : Int) ≤ (n : Int) + 1 := by omega
  have b1 := bA_lt s n; have b2 := bA_lt s (n + 1)
  have g1 := bA_get (show n < s.size by omega); have g2 := bA_get h
  have HN : Sec (256 * (bA s n : Int) + (bA s (n + 1) : Int) = ((numS s n : Nat) : Int)) := ⟨by unfold numS; omega⟩
  go_enter Tryz.func64, Tryz.ntmps64
  go_wp2
  go_quiet (fail)
  go_wp2
  go_ret
  exact ⟨ret_int HN.out, (by repeat (first | exact Dr.refl _ | exact ⟨_, rfl⟩ | refine Dr.drewN ?_ _ | refine Dr.drew ?_))⟩
set_option maxHeartbeats 400000 in
theorem c_numberAt (s : ByteArray) (n : Nat) (w : World) (h : n + 1 < s.size) (hs : s.size ≤ 1073741824) : Calls Tryz.prog 32 #[.string s, .int .i64 (n : Int)] w fun e w' => e = .returned (.int .i64 ((numS s n : Nat) : Int)) ∧ Dr w w' := by
  have a1 : (n : Int) < (s.size : Int) := by omega
  have a2 : (n : Int) + 1 < (s.size : Int) := by omega
  have a3 : IntKind.i64.wrap ((n : Int) + 1) = (n : Int) + 1 := IntWalk.i64_in _ (by omega)
  have a4 : ((n : Int) + 1).toNat = n + 1 := by omega
  have a5 : (0 : Int) ≤ (n : Int) + 1 := by omega
  have b1 := bA_lt s n; have b2 := bA_lt s (n + 1)
  have g1 := bA_get (show n < s.size by omega); have g2 := bA_get h
  have HN : Sec (256 * (bA s n : Int) + (bA s (n + 1) : Int) = ((numS s n : Nat) : Int)) := ⟨by unfold numS; omega⟩
  go_enter Tryz.func32, Tryz.ntmps32
  go_wp2
  go_quiet (fail)
  go_wp2
  go_ret
  exact ⟨ret_int (by rw [← HN.out]; omega), (by repeat (first | exact Dr.refl _ | exact ⟨_, rfl⟩ | refine Dr.drewN ?_ _ | refine Dr.drew ?_))⟩
end Go.Proofs.YtpmflkoepnanoaaGreat
