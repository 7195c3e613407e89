/- Contracts: bits as packed bytes. -/
import Derived.Test.YtpmflkoepnanoaaGreatDb
import Derived.Test.YtpmflkoepnanoaaGreatBb
namespace Go.Proofs.YtpmflkoepnanoaaGreat
open Go.RowKit
theorem OwY.of_made {w : World} {B n : Nat} {v : Value} (h : w.ownsRow B 5 1 v n (madeCells #[Value.int .u8 0] n).toList) : OwY 5 w B v (List.replicate n 0) := by
  unfold OwY
  have e : (madeCells #[Value.int .u8 0] n).toList = List.replicate n (Value.int .u8 0) := toList_madeCells_one _ n
  rw [e] at h
  simpa using h
theorem OwY.sizeN {w : World} {E : TypeId} {B g n cap : Nat} {bs : List UInt8} (h : OwY E w B (.slice (some ⟨g, 0, none⟩) n cap) bs) : n = bs.length := by
  rcases h.2 with ⟨h', _⟩ | ⟨g', cap', cur, h', _⟩
  · cases h'
  · injection h'
theorem OwY.cellN {w : World} {E : TypeId} {B g n cap : Nat} {bs : List UInt8} (h : OwY E w B (.slice (some ⟨g, 0, none⟩) n cap) bs) {j : Nat} {x : UInt8} (hj : bs[j]? = some x) : w.cell? ⟨g, j, none⟩ = some (.int .u8 (x.toNat : Int)) := by
  have hl := (List.getElem?_eq_some_iff.1 hj).1
  have hn := h.sizeN
  subst hn
  have := World.ownsRow.cellAt h j (by omega)
  rw [this, List.getElem?_map, hj]; rfl
theorem OwY.freeN {w : World} {E : TypeId} {B g n cap : Nat} {bs : List UInt8} (h : OwY E w B (.slice (some ⟨g, 0, none⟩) n cap) bs) (j : Nat) : w.frozen? ⟨g, j, none⟩ = false := by
  have hn := h.sizeN
  subst hn
  exact World.ownsRow.frozenAt h j
theorem OwY.setN {w : World} {E : TypeId} {B g n cap : Nat} {bs : List UInt8} (h : OwY E w B (.slice (some ⟨g, 0, none⟩) n cap) bs) (j : Nat) (x : UInt8) : OwY E (w.setCell ⟨g, j, none⟩ (.int .u8 (x.toNat : Int))) B (.slice (some ⟨g, 0, none⟩) n cap) (bs.set j x) := by
  have hn := h.sizeN
  subst hn
  have := (World.ownsRow.stored h j (.int .u8 (x.toNat : Int))).1
  unfold OwY
  rw [List.map_set, List.length_set]
  exact this
theorem OwY.form {w : World} {E : TypeId} {B : Nat} {v : Value} {bs : List UInt8} (h : OwY E w B v bs) (hn : 0 < bs.length) : ∃ g cap, v = .slice (some ⟨g, 0, none⟩) bs.length cap ∧ bs.length ≤ cap ∧ B ≤ g ∧ g < w.heap.size := by
  rcases h.2 with ⟨_, h0⟩ | ⟨g, cap, cur, rfl, hbg, hg, hnc, _⟩
  · omega
  · exact ⟨g, cap, rfl, hnc, hbg, (Array.getElem?_eq_some_iff.1 hg).1⟩
theorem shr128 (c : Nat) (h : c < 8) : (128 : Int) / 2 ^ c = ((2 ^ (7 - c) : Nat) : Int) := by
  have : c = 0 ∨ c = 1 ∨ c = 2 ∨ c = 3 ∨ c = 4 ∨ c = 5 ∨ c = 6 ∨ c = 7 := by omega
  rcases this with rfl | rfl | rfl | rfl | rfl | rfl | rfl | rfl <;> rfl
theorem or_byte {l : List UInt8} {k : Nat} (h : bitN l k = 1) : Go.bits .or .u8 ((outAt l k (k / 8) : Nat) : Int) (128 / 2 ^ (k % 8)) = ((UInt8.ofNat (outAt l (k + 1) (k / 8))).toNat : Int) := by
  have h1 := outAt_lt l k (k / 8)
  have h2 := outAt_lt l (k + 1) (k / 8)
  have h3 : 2 ^ (7 - k % 8) ≤ 2 ^ 7 := Nat.pow_le_pow_right (by omega) (by omega)
  rw [shr128 _ (Nat.mod_lt _ (by omega)), u8_or_nat _ _ h1 (by omega), outAt_or h]
  simp; omega
set_option maxHeartbeats 400000 in
set_option maxRecDepth 100000 in
theorem c_packed (s : ByteArray) (w : World) (hs : s.size ≤ 1073741824) : Calls Tryz.prog 59 #[.string s] w fun e w' => e = .returned (.string (mkS (packL s.data.toList))) ∧ Below w.heap.size w w' := by
  have hsl : s.data.toList.length = s.size := Array.length_toList
  obtain ⟨i0, hi, hz0, hz1, hz2⟩ := info_parts info_u8
  generalize hbits : s.data.toList = bits at *
  have HBITS := hide hbits; clear hbits
  have HSL := hide hsl; clear hsl
  have HQ := hide (show ((s.size : Int) + 7) / 8 = (((s.size + 7) / 8 : Nat) : Int) by omega)
  go_enter Tryz.func59, Tryz.ntmps59
  go_wp2_with (at_make; go_must (refine wpList_make_full _ rfl _ _ _ rfl w.heap.size 5 i0 _ 1 Tryz.underlying22 hi hz0 hz1 .i64 .i64 _ _ ((s.size + 7) / 8) rfl rfl HQ.out HQ.out ?b2 ?b3 (Nat.le_refl _) ?hK))
  case b2 => rw [hz2]; omega
  case b3 => unfold maxLen; omega
  case hK =>
    intro w1 hown1 hg1
    have HO1 := hide (OwY.of_made hown1)
    have HB1 := hide ((Below.refl w.heap.size w).grown hg1 (Nat.le_refl _) (by simp))
    clear hown1 hg1
    go_wp2
    go_loopw [12] (fun i wr => ∃ k : Nat, k ≤ s.size ∧ i = .int .i64 k ∧ OwY 5 wr w.heap.size (.slice (some ⟨w.heap.size, 0, none⟩) ((s.size + 7) / 8) ((s.size + 7) / 8)) (outL bits k) ∧ Below w.heap.size w wr) (fun i _ => s.size - (intOf i).toNat)
    case atStart => exact ⟨0, Nat.zero_le _, rfl, by have := HO1.out; rw [outL_start, HSL.out]; exact this, HB1.out⟩
    case round =>
      obtain ⟨k, hk, rfl, ho, hb⟩ := hrel
      have HO := hide ho; have HB := hide hb; clear ho hb
      by_cases hlt : k < s.size
      · have hg := bA_get hlt
        have hlt8 := bA_lt s k
        have hbk : bits.getD k 48 = 49 ↔ bA s k = 49 := by
          have h' : k < bits.length := by rw [HSL.out]; exact hlt
          unfold bA
          rw [HBITS.out, List.getD_eq_getElem?_getD, List.getD_eq_getElem?_getD, List.getElem?_eq_getElem h']
          simp only [Option.getD_some]
          constructor
          · intro h; rw [h]; rfl
          · intro h; exact UInt8.toNat_inj.1 h
        by_cases h49 : bA s k = 49
        · have hbn : bitN bits k = 1 := by unfold bitN; rw [if_pos (hbk.2 h49)]
          have HOR := hide (outAt_or hbn)
          have hol := outAt_lt bits k (k / 8)
          have HST := hide (outL_step1 (bits := bits) (i := k) (by rw [HSL.out]; exact hlt))
          have hm8 : k / 8 < (s.size + 7) / 8 := by omega
          have hcell : wr.cell? ⟨w.heap.size, k / 8, none⟩ = some (.int .u8 ((outAt bits k (k / 8) : Nat) : Int)) := by
            rw [HO.out.cellN (outL_at (by rw [HSL.out]; exact hm8))]
            congr 2; simp; omega
          have hfr := HO.out.freeN (k / 8)
          have e1 : ((k : Int) / 8).toNat = k / 8 := by omega
          have e2 : (k : Int) / 8 < (((s.size + 7) / 8 : Nat) : Int) := by omega
          have ht : ((bA s k : Int) == 49) = true := by rw [h49]; rfl
          have HV := hide (or_byte hbn)
          clear hbk h49 hbn
          go_wp2
          go_roundw
          case rel => exact ⟨k + 1, by omega, by go_num, by have := HO.out.setN (k / 8) (UInt8.ofNat (outAt bits (k + 1) (k / 8))); rw [HST.out, ← HV.out] at this; exact this, HB.out.setCell (Nat.le_refl _) _⟩
          case measure => first | (simp [intOf]; done) | (simp [intOf]; omega)
        · have hbn : bitN bits k = 0 := by unfold bitN; rw [if_neg (fun h => h49 (hbk.1 h))]
          have HST := hide (outL_step0 hbn)
          have ht : ((bA s k : Int) == 49) = false := by simp; omega
          clear hbk h49 hbn
          go_wp2
          go_roundw
          case rel => exact ⟨k + 1, by omega, by go_num, by rw [HST.out]; exact HO.out, HB.out⟩
          case measure => first | (simp [intOf]; done) | (simp [intOf]; omega)
      · have hke : k = bits.length := by have := HSL.out; omega
        have HE := hide (show outL bits k = packL bits by rw [hke, outL_end])
        clear hke
        have hc := str_of HO.out.rd
        rw [HE.out] at hc
        go_wp2
        go_ret
        exact ⟨rfl, HB.out⟩
end Go.Proofs.YtpmflkoepnanoaaGreat
