/- Contract: a frame that is decoded; the other side. -/
import Derived.Test.YtpmflkoepnanoaaGreatId
import Derived.Test.YtpmflkoepnanoaaGreatIu
import Derived.Test.YtpmflkoepnanoaaGreatHb
namespace Go.Proofs.YtpmflkoepnanoaaGreat
open Go.RowKit
def midS (s : ByteArray) : ByteArray := s.extract 4 (s.size - 2)
def bitS (s : ByteArray) : ByteArray := mkS (unpkL (midS s))
def decD (s : ByteArray) : List Int × Nat × Int := decF (bitS s).data.toList (bA s 3) (numS s 0) 0 []
def rstS (s : ByteArray) : ByteArray := (bitS s).extract (decD s).2.1 (bitS s).size
def hdB (s : ByteArray) : Bool := decide (numS s 0 ≤ 256) && decide (bA s 2 ≤ 3) && decide (bA s 3 ≤ 30)
/-- A frame decoded: the samples and the code. -/
def decFrF (s : ByteArray) : List Int × Int :=
  if s.size < 6 then ([], 11) else if sealedB s = false then ([], 10) else if hdB s = false then ([], 9)
  else if (decD s).2.2 ≠ 0 then ([], (decD s).2.2) else if restB (rstS s) = false then ([], 9) else (restF (bA s 2) (decD s).1, 0)
def DfR (s : ByteArray) (w : World) (e : Ending) (w' : World) : Prop := ∃ v, e = .returned (.tuple #[v, .int .i64 (decFrF s).2]) ∧ OwI 2 w' w.heap.size v (decFrF s).1 ∧ Below w.heap.size w w'
theorem DfR.mkE {s : ByteArray} {w w' : World} {c : Int} (h : decFrF s = ([], c)) (hb : Below w.heap.size w w') : DfR s w (.returned (.tuple #[.slice none 0 0, .int .i64 c])) w' :=
  ⟨_, by rw [h], by rw [h]; exact OwI.nil_ _ _ _, hb⟩
theorem DfR.mk {s : ByteArray} {w w' : World} {v : Value} {xs : List Int} {c : Int} (h : decFrF s = (xs, c)) (ho : OwI 2 w' w.heap.size v xs) (hb : Below w.heap.size w w') : DfR s w (.returned (.tuple #[v, .int .i64 c])) w' :=
  ⟨_, by rw [h], by rw [h]; exact ho, hb⟩
section
variable {s : ByteArray}
theorem dfr1 (h : s.size < 6) : decFrF s = ([], 11) := by unfold decFrF; rw [if_pos h]
theorem dfr2 (h : ¬ s.size < 6) (h2 : sealedB s = false) : decFrF s = ([], 10) := by unfold decFrF; rw [if_neg h, if_pos h2]
theorem dfr3 (h : ¬ s.size < 6) (h2 : sealedB s = true) (h3 : hdB s = false) : decFrF s = ([], 9) := by unfold decFrF; rw [if_neg h, if_neg (by rw [h2]; simp), if_pos h3]
theorem dfr4 (h : ¬ s.size < 6) (h2 : sealedB s = true) (h3 : hdB s = true) {xs : List Int} {p : Nat} {c : Int} (h4 : decD s = (xs, p, c)) (hc : c ≠ 0) : decFrF s = ([], c) := by
  unfold decFrF; rw [if_neg h, if_neg (by rw [h2]; simp), if_neg (by rw [h3]; simp), h4]; exact if_pos hc
theorem dfr5 (h : ¬ s.size < 6) (h2 : sealedB s = true) (h3 : hdB s = true) {xs : List Int} {p : Nat} (h4 : decD s = (xs, p, 0)) (h5 : restB ((bitS s).extract p (bitS s).size) = false) : decFrF s = ([], 9) := by
  unfold decFrF rstS; rw [if_neg h, if_neg (by rw [h2]; simp), if_neg (by rw [h3]; simp), h4]; exact if_pos h5
theorem dfr6 (h : ¬ s.size < 6) (h2 : sealedB s = true) (h3 : hdB s = true) {xs : List Int} {p : Nat} (h4 : decD s = (xs, p, 0)) (h5 : restB ((bitS s).extract p (bitS s).size) = true) : decFrF s = (restF (bA s 2) xs, 0) := by
  unfold decFrF rstS; rw [if_neg h, if_neg (by rw [h2]; simp), if_neg (by rw [h3]; simp), h4]; simp only; rw [if_neg (by simp), h5]; simp
end
theorem restB_long {t : ByteArray} (h : 8 ≤ t.size) : restB t = false := by unfold restB; rw [decide_eq_false (by omega)]; rfl
theorem restB_bad {t : ByteArray} {i : Nat} (hi : i < t.size) (h : bA t i ≠ 48) : restB t = false := by
  have hl : i < t.data.toList.length := by rw [Array.length_toList]; exact hi
  have : t.data.toList.all (· == 48) = false := by
    rw [List.all_eq_false]
    refine ⟨t.data.toList[i], List.getElem_mem _, ?_⟩
    intro hc
    apply h
    unfold bA
    rw [List.getD_eq_getElem?_getD, List.getElem?_eq_getElem hl]
    simp only [Option.getD_some]
    rw [beq_iff_eq.1 hc]; rfl
  unfold restB; rw [this, Bool.and_false]
theorem restB_ok {t : ByteArray} (h : t.size < 8) (h2 : ∀ i, i < t.size → bA t i = 48) : restB t = true := by
  unfold restB
  rw [Bool.and_eq_true]
  refine ⟨decide_eq_true h, ?_⟩
  rw [List.all_eq_true]
  intro x hx
  obtain ⟨i, hi, rfl⟩ := List.mem_iff_getElem.1 hx
  have hl : i < t.size := by rw [← len_data]; exact hi
  have := h2 i hl
  unfold bA at this
  rw [List.getD_eq_getElem?_getD, List.getElem?_eq_getElem hi] at this
  simp only [Option.getD_some] at this
  exact beq_iff_eq.2 (UInt8.toNat_inj.1 this)
theorem bits_mid (s : ByteArray) : Bits (bitS s).data.toList := bits_unpk _
theorem size_bitS (s : ByteArray) (h : 6 ≤ s.size) : (bitS s).size = 8 * (s.size - 6) := by
  unfold bitS; rw [size_unpk]; unfold midS; rw [ByteArray.size_extract]; omega
theorem bits_ext {t : ByteArray} (h : Bits t.data.toList) (a b : Nat) : Bits (t.extract a b).data.toList := by
  intro x hx
  apply h x
  rw [ByteArray.data_extract] at hx
  simp only [Array.toList_extract] at hx
  exact List.mem_of_mem_drop (List.mem_of_mem_take hx)
set_option maxHeartbeats 2000000 in
set_option maxRecDepth 100000 in
theorem c_sDecodeFrame (s : ByteArray) (w : World) (hs : s.size ≤ 1048576) : Calls Tryz.prog 88 #[.string s] w (DfR s w) := by
  by_cases h6 : s.size < 6
  · have HE := hide (dfr1 h6)
    go_enter Tryz.func88, Tryz.ntmps88
    go_wp2
    go_ret2
    exact DfR.mkE HE.out (Below.refl _ _)
  · have hz2 := size_ext0 s (s.size - 2) (by omega)
    have HZ2 := hide hz2; clear hz2
    generalize hsl : sealS (s.extract 0 (s.size - 2)) = sl at *
    cases h2 : (sl.toList == s.toList)
    · have HE := hide (dfr2 h6 (show sealedB s = false by unfold sealedB; rw [hsl, ← str_eq]; exact h2))
      have HSL := hide hsl; clear hsl
      go_enter Tryz.func88, Tryz.ntmps88
      go_wp2_with fail
      refine (c_l29Seal _ _ (by rw [HZ2.out]; omega)).mono ?_; rw [HSL.out]; rintro e w1 ⟨rfl, hb⟩; have HB := hide hb; clear hb
      go_wp2
      go_ret2
      exact DfR.mkE HE.out HB.out
    · have HSB := hide (show sealedB s = true by unfold sealedB; rw [hsl, ← str_eq]; exact h2)
      have HSL := hide hsl; clear hsl
      have hn := numS_lt s 0
      have g2 := bA_get (show 2 < s.size by omega); have g3 := bA_get (show 3 < s.size by omega)
      have b2 := bA_lt s 2; have b3 := bA_lt s 3
      by_cases hh : numS s 0 ≤ 256 ∧ bA s 2 ≤ 3 ∧ bA s 3 ≤ 30
      · obtain ⟨hn1, ho1, hk1⟩ := hh
        have HHD := hide (show hdB s = true by unfold hdB; simp; omega)
        have HBT := hide (bits_mid s)
        have hzb : (bitS s).size ≤ 8388608 := by rw [size_bitS s (by omega)]; omega
        have HBS := hide (show mkS (unpkL (s.extract 4 (s.size - 2))) = bitS s from rfl)
        have HZM := hide (show (s.extract 4 (s.size - 2)).size ≤ 1073741824 by rw [ByteArray.size_extract]; omega)
        obtain ⟨xs, p, c, hd⟩ : ∃ xs p c, decD s = (xs, p, c) := ⟨_, _, _, rfl⟩
        have hbd := decF_bd (l := (bitS s).data.toList) (k := bA s 3) (numS s 0) 0 [] (Nat.zero_le _) (by simp)
        have hdd : decF (bitS s).data.toList (bA s 3) (numS s 0) 0 [] = (xs, p, c) := hd
        rw [hdd, len_data] at hbd
        obtain ⟨hxs, hpl, hlen, _⟩ := hbd
        replace hpl : p ≤ (bitS s).size := hpl
        have hlen2 : c = 0 → xs.length = numS s 0 := fun h => by have := hlen h; simpa using this
        have HDC := hide (fun w => c_l29Decode (bitS s) (numS s 0) (bA s 3) w HBT.out (by omega) (by omega) hk1)
        have HXS := hide hxs; have HLN := hide hlen2
        have HE4 := hide (fun h => dfr4 h6 HSB.out HHD.out hd h)
        have HE5 := hide (fun (h : c = 0) h5 => dfr5 h6 HSB.out HHD.out (p := p) (xs := xs) (by rw [hd, h]) h5)
        have HE6 := hide (fun (h : c = 0) h5 => dfr6 h6 HSB.out HHD.out (p := p) (xs := xs) (by rw [hd, h]) h5)
        have HDD := hide hdd
        have t1 : ¬ (256 : Int) < (numS s 0 : Int) := by omega
        have t2 : ¬ (3 : Int) < (bA s 2 : Int) := by omega
        have t3 : ¬ (30 : Int) < (bA s 3 : Int) := by omega
        clear hxs hlen hlen2 hdd hd HBT
        generalize hnn : numS s 0 = n at *
        generalize bA s 2 = o at *
        generalize bA s 3 = k at *
        generalize bitS s = bits at *
        have HNN := hide hnn; clear hnn
        by_cases hc : c = 0
        · subst hc
          have HF5 := hide (HE5.out rfl); have HF6 := hide (HE6.out rfl); have HXL := hide (HLN.out rfl); clear HE5 HE6 HE4 HLN
          generalize ht : bits.extract p bits.size = t at *
          have hzt : t.size ≤ 8388608 := by rw [← ht, ByteArray.size_extract]; omega
          go_enter Tryz.func88, Tryz.ntmps88
          go_wp2_with fail
          refine (c_l29Seal _ _ (by rw [HZ2.out]; omega)).mono ?_; rw [HSL.out]; rintro e w1 ⟨rfl, hb⟩; have HB := hide hb; clear hb
          go_wp2_with fail
          refine (c_l29At s 0 _ (by omega) (by omega)).mono ?_; rw [HNN.out]; rintro e _ ⟨rfl, n1, rfl⟩
          go_wp2_with fail
          refine (c_l29Unpack _ _ HZM.out).mono ?_; rw [HBS.out]; rintro e w2 ⟨rfl, hb⟩; have HB2 := hide (bthen (below_drewN HB.out n1) HB.out.size hb); clear hb
          go_wp2_with fail
          refine (HDC.out _).mono ?_; rintro e w3 ⟨v3, rfl, ho3, hb3⟩; rw [HDD.out] at ho3 ⊢
          have HB3 := hide (bthen HB2.out HB2.out.size hb3); have HO3 := hide ho3; clear hb3 ho3
          have HSZ2 := hide HB2.out.size
          go_wp2_with fail
          go_loopw [13] (fun i wr => ∃ j : Nat, j ≤ t.size ∧ i = .int .i64 j ∧ (0 < j → t.size < 8) ∧ (∀ i, i < j → bA t i = 48) ∧ wr = w3) (fun i _ => t.size - (intOf i).toNat)
          case atStart => exact ⟨0, Nat.zero_le _, rfl, fun h => absurd h (by omega), fun i h => absurd h (by omega), rfl⟩
          case round =>
            obtain ⟨j, hj, rfl, hj8, hall, rfl⟩ := hrel
            have HJ8 := hide hj8; have HALL := hide hall; clear hj8 hall
            by_cases hlt : j < t.size
            · by_cases h8 : 8 ≤ t.size
              · have HEE := hide (HF5.out (restB_long h8))
                go_wp2
                go_ret2
                exact DfR.mkE HEE.out HB3.out
              · have gj := bA_get hlt
                by_cases h48 : bA t j = 48
                · have HA2 := hide (show ∀ i, i < j + 1 → bA t i = 48 from fun i hi => by
                    by_cases e : i = j
                    · rw [e]; exact h48
                    · exact HALL.out i (by omega))
                  have ht : ((bA t j : Int) != 48) = false := by rw [h48]; rfl
                  generalize bA t j = z at *
                  go_wp2
                  go_roundw
                  case rel => exact ⟨j + 1, by omega, by go_num, fun _ => by omega, HA2.out, trivial⟩
                  case measure => first | (simp [intOf]; done) | (simp [intOf]; omega)
                · have HEE := hide (HF5.out (restB_bad hlt h48))
                  have ht : ((bA t j : Int) != 48) = true := by simp; omega
                  generalize bA t j = z at *
                  go_wp2
                  go_ret2
                  exact DfR.mkE HEE.out HB3.out
            · have h8 : t.size < 8 := by
                by_cases h0 : 0 < j
                · exact HJ8.out h0
                · omega
              have HEE := hide (HF6.out (restB_ok h8 (fun i hi => HALL.out i (by omega))))
              go_wp2_with fail
              refine (c_l29Restore _ xs o _ HO3.out.rd HXS.out (by rw [HXL.out]; omega) ho1).mono ?_; rintro e w4 ⟨v4, rfl, ho4, hb4⟩
              have HB4 := hide (bthen HB3.out HB3.out.size hb4); have HO4 := hide (ho4.more HB3.out.size); clear ho4 hb4
              go_wp2
              go_ret2
              exact DfR.mk HEE.out HO4.out HB4.out
        · have HE := hide (HE4.out hc)
          have ht : (c != 0) = true := by simpa using hc
          go_enter Tryz.func88, Tryz.ntmps88
          go_wp2_with fail
          refine (c_l29Seal _ _ (by rw [HZ2.out]; omega)).mono ?_; rw [HSL.out]; rintro e w1 ⟨rfl, hb⟩; have HB := hide hb; clear hb
          go_wp2_with fail
          refine (c_l29At s 0 _ (by omega) (by omega)).mono ?_; rw [HNN.out]; rintro e _ ⟨rfl, n1, rfl⟩
          go_wp2_with fail
          refine (c_l29Unpack _ _ HZM.out).mono ?_; rw [HBS.out]; rintro e w2 ⟨rfl, hb⟩; have HB2 := hide (bthen (below_drewN HB.out n1) HB.out.size hb); clear hb
          go_wp2_with fail
          refine (HDC.out _).mono ?_; rintro e w3 ⟨v3, rfl, ho3, hb3⟩; rw [HDD.out]
          have HB3 := hide (bthen HB2.out HB2.out.size hb3); clear hb3 ho3
          go_wp2
          go_ret2
          exact DfR.mkE HE.out HB3.out
      · have HE := hide (dfr3 h6 HSB.out (show hdB s = false by unfold hdB; simp; omega))
        have HH := hide hh; clear hh
        generalize hnn : numS s 0 = n at *
        generalize bA s 2 = o at *
        generalize bA s 3 = k at *
        have HNN := hide hnn; clear hnn
        by_cases hn1 : n ≤ 256
        · have t1 : ¬ (256 : Int) < (n : Int) := by omega
          by_cases ho1 : o ≤ 3
          · have t2 : ¬ (3 : Int) < (o : Int) := by omega
            have t3 : (30 : Int) < (k : Int) := by have := HH.out; omega
            go_enter Tryz.func88, Tryz.ntmps88
            go_wp2_with fail
            refine (c_l29Seal _ _ (by rw [HZ2.out]; omega)).mono ?_; rw [HSL.out]; rintro e w1 ⟨rfl, hb⟩; have HB := hide hb; clear hb
            go_wp2_with fail
            refine (c_l29At s 0 _ (by omega) (by omega)).mono ?_; rw [HNN.out]; rintro e _ ⟨rfl, n1, rfl⟩
            go_wp2
            go_ret2
            exact DfR.mkE HE.out (below_drewN HB.out _)
          · have t2 : (3 : Int) < (o : Int) := by omega
            go_enter Tryz.func88, Tryz.ntmps88
            go_wp2_with fail
            refine (c_l29Seal _ _ (by rw [HZ2.out]; omega)).mono ?_; rw [HSL.out]; rintro e w1 ⟨rfl, hb⟩; have HB := hide hb; clear hb
            go_wp2_with fail
            refine (c_l29At s 0 _ (by omega) (by omega)).mono ?_; rw [HNN.out]; rintro e _ ⟨rfl, n1, rfl⟩
            go_wp2
            go_ret2
            exact DfR.mkE HE.out (below_drewN HB.out _)
        · have t1 : (256 : Int) < (n : Int) := by omega
          go_enter Tryz.func88, Tryz.ntmps88
          go_wp2_with fail
          refine (c_l29Seal _ _ (by rw [HZ2.out]; omega)).mono ?_; rw [HSL.out]; rintro e w1 ⟨rfl, hb⟩; have HB := hide hb; clear hb
          go_wp2_with fail
          refine (c_l29At s 0 _ (by omega) (by omega)).mono ?_; rw [HNN.out]; rintro e _ ⟨rfl, n1, rfl⟩
          go_wp2
          go_ret2
          exact DfR.mkE HE.out (below_drewN HB.out _)
end Go.Proofs.YtpmflkoepnanoaaGreat
