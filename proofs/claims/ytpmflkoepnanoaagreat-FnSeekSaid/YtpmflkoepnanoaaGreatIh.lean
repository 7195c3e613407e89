/- Contract: a frame that is decoded. -/
import Derived.Test.YtpmflkoepnanoaaGreatIg
namespace Go.Proofs.YtpmflkoepnanoaaGreat
open Go.RowKit
theorem idx_ok {l : List UInt8} (h : Bits l) : decide (0 ≤ Lib.indexByte l 49) = !(l.all (· == 48)) := by
  induction l with
  | nil => rfl
  | cons b l ih =>
    have hl : Bits l := fun x hx => h x (by simp [hx])
    have hge := Lib.indexByte_ge l 49
    have ih := ih hl
    rcases h b (by simp) with rfl | rfl
    · have e : Lib.indexByte (48 :: l) 49 = if (Lib.indexByte l 49 == -1) = true then -1 else Lib.indexByte l 49 + 1 := rfl
      have e2 : (0 ≤ Lib.indexByte (48 :: l) 49) ↔ (0 ≤ Lib.indexByte l 49) := by
        rw [e]
        by_cases h1 : Lib.indexByte l 49 = -1
        · rw [h1]; decide
        · rw [if_neg (by simpa using h1)]; omega
      rw [decide_eq_decide.2 e2, ih]; rfl
    · rfl
set_option maxHeartbeats 2000000 in
set_option maxRecDepth 100000 in
theorem c_iDecodeFrame (s : ByteArray) (w : World) (hs : s.size ≤ 1048576) : Calls Tryz.prog 52 #[.string s] w (DfR s w) := by
  by_cases h6 : s.size < 6
  · have HE := hide (dfr1 h6)
    go_enter Tryz.func52, Tryz.ntmps52
    go_wp2
    go_ret2
    exact DfR.mkE HE.out (Below.refl _ _)
  · cases h2 : sealedB s
    · have HE := hide (dfr2 h6 h2)
      have H2 := hide h2; clear h2
      go_enter Tryz.func52, Tryz.ntmps52
      go_wp2_with fail
      refine (c_isChecked s _ (by omega) (by omega)).mono ?_; rw [H2.out]; rintro e w1 ⟨rfl, hb⟩; have HB := hide hb; clear hb
      go_wp2
      go_ret2
      exact DfR.mkE HE.out HB.out
    · have HSB := hide h2; clear h2
      have hn := numS_lt s 0
      have g2 := bA_get (show 2 < s.size by omega); have g3 := bA_get (show 3 < s.size by omega)
      have b2 := bA_lt s 2; have b3 := bA_lt s 3
      have HNA := hide (fun w => c_numberAt s 0 w (by omega) (by omega))
      by_cases hh : numS s 0 ≤ 256 ∧ bA s 2 ≤ 3 ∧ bA s 3 ≤ 30
      · obtain ⟨hn1, ho1, hk1⟩ := hh
        have HHD := hide (show hdB s = true by unfold hdB; simp; omega)
        have HBT := hide (bits_mid s)
        have hzb : (bitS s).size ≤ 8388608 := by rw [size_bitS s (by omega)]; omega
        have HBS := hide (show mkS (unpkL (s.extract 4 (s.size - 2))) = bitS s from rfl)
        have HZM := hide (show (s.extract 4 (s.size - 2)).size ≤ 1073741824 by rw [ByteArray.size_extract]; omega)
        obtain ⟨xs, p, c, hd⟩ : ∃ xs p c, decD s = (xs, p, c) := ⟨_, _, _, rfl⟩
        have hbd := decF_bd (l := (bitS s).data.toList) (k := bA s 3) (numS s 0) 0 [] (Nat.zero_le _) (by simp)
        have hdd : decF (bitS s).data.toList (bA s 3) (numS s 0) 0 [] = (xs, p, c) := hd
        rw [hdd, len_data] at hbd
        obtain ⟨hxs, hpl, hlen, _⟩ := hbd
        replace hpl : p ≤ (bitS s).size := hpl
        have hlen2 : c = 0 → xs.length = numS s 0 := fun h => by have := hlen h; simpa using this
        have HDC := hide (fun w => c_decodeRice (bitS s) (numS s 0) (bA s 3) w HBT.out (by omega) (by omega) hk1)
        have HXS := hide hxs; have HLN := hide hlen2
        have HE4 := hide (fun h => dfr4 h6 HSB.out HHD.out hd h)
        have HE5 := hide (fun (h : c = 0) h5 => dfr5 h6 HSB.out HHD.out (p := p) (xs := xs) (by rw [hd, h]) h5)
        have HE6 := hide (fun (h : c = 0) h5 => dfr6 h6 HSB.out HHD.out (p := p) (xs := xs) (by rw [hd, h]) h5)
        have HDD := hide hdd
        have t1 : ¬ (256 : Int) < (numS s 0 : Int) := by omega
        have t2 : inB (bA s 2 : Int) 0 3 = true := inB_true.2 (by omega)
        have t3 : inB (bA s 3 : Int) 0 30 = true := inB_true.2 (by omega)
        have HTB := hide (bits_ext HBT.out p (bitS s).size)
        clear hxs hlen hlen2 hdd hd HBT
        generalize hnn : numS s 0 = n at *
        generalize bA s 2 = o at *
        generalize bA s 3 = k at *
        generalize bitS s = bits at *
        have HNN := hide hnn; clear hnn
        by_cases hc : c = 0
        · subst hc
          have HF5 := hide (HE5.out rfl); have HF6 := hide (HE6.out rfl); have HXL := hide (HLN.out rfl); clear HE5 HE6 HE4 HLN
          generalize ht : bits.extract p bits.size = t at *
          have hzt : t.size ≤ 8388608 := by rw [← ht, ByteArray.size_extract]; omega
          by_cases h8 : 8 ≤ t.size
          · have HEE := hide (HF5.out (restB_long h8))
            go_enter Tryz.func52, Tryz.ntmps52
            go_wp2_with fail
            refine (c_isChecked s _ (by omega) (by omega)).mono ?_; rw [HSB.out]; rintro e w1 ⟨rfl, hb⟩; have HB := hide hb; clear hb
            go_wp2_with fail
            go_quiet ((go_at_call 32; exact Calls.quiet_of (HNA.out _)))
            go_wp2_with (first | (go_at_call 70; refine (c_isOrder _ _).mono ?_; rintro e w' ⟨rfl, rfl⟩) | (go_at_call 71; refine (c_isRice _ _).mono ?_; rintro e w' ⟨rfl, rfl⟩))
            refine (c_unpacked _ _ HZM.out).mono ?_; rw [HBS.out]; rintro e w2 ⟨rfl, hb⟩; have HB2 := hide (bthen (below_drewN HB.out _) HB.out.size hb); clear hb
            go_wp2_with fail
            refine (HDC.out _).mono ?_; rintro e w3 ⟨v3, rfl, ho3, hb3⟩; rw [HDD.out] at ho3 ⊢
            have HB3 := hide (bthen HB2.out HB2.out.size hb3); have HO3 := hide ho3; clear hb3 ho3
            go_wp2
            go_ret2
            exact DfR.mkE HEE.out HB3.out
          · have HST := hide (Tryz.strings_Contains_one t 49 ·)
            have HIX := hide (idx_ok HTB.out)
            cases hall : t.data.toList.all (· == 48)
            · have HEE := hide (HF5.out (show restB t = false by unfold restB; rw [hall, Bool.and_false]))
              have HAL := hide hall; clear hall
              go_enter Tryz.func52, Tryz.ntmps52
              go_wp2_with fail
              refine (c_isChecked s _ (by omega) (by omega)).mono ?_; rw [HSB.out]; rintro e w1 ⟨rfl, hb⟩; have HB := hide hb; clear hb
              go_wp2_with fail
              go_quiet ((go_at_call 32; exact Calls.quiet_of (HNA.out _)))
              go_wp2_with (first | (go_at_call 70; refine (c_isOrder _ _).mono ?_; rintro e w' ⟨rfl, rfl⟩) | (go_at_call 71; refine (c_isRice _ _).mono ?_; rintro e w' ⟨rfl, rfl⟩))
              refine (c_unpacked _ _ HZM.out).mono ?_; rw [HBS.out]; rintro e w2 ⟨rfl, hb⟩; have HB2 := hide (bthen (below_drewN HB.out _) HB.out.size hb); clear hb
              go_wp2_with fail
              refine (HDC.out _).mono ?_; rintro e w3 ⟨v3, rfl, ho3, hb3⟩; rw [HDD.out] at ho3 ⊢
              have HB3 := hide (bthen HB2.out HB2.out.size hb3); have HO3 := hide ho3; clear hb3 ho3
              go_wp2_with fail
              refine (HST.out _).mono ?_; rw [HIX.out, HAL.out]; rintro e _ ⟨rfl, rfl⟩
              go_wp2
              go_ret2
              exact DfR.mkE HEE.out HB3.out
            · have HEE := hide (HF6.out (show restB t = true by unfold restB; rw [hall, decide_eq_true (by omega)]; rfl))
              have HAL := hide hall; clear hall
              go_enter Tryz.func52, Tryz.ntmps52
              go_wp2_with fail
              refine (c_isChecked s _ (by omega) (by omega)).mono ?_; rw [HSB.out]; rintro e w1 ⟨rfl, hb⟩; have HB := hide hb; clear hb
              go_wp2_with fail
              go_quiet ((go_at_call 32; exact Calls.quiet_of (HNA.out _)))
              go_wp2_with (first | (go_at_call 70; refine (c_isOrder _ _).mono ?_; rintro e w' ⟨rfl, rfl⟩) | (go_at_call 71; refine (c_isRice _ _).mono ?_; rintro e w' ⟨rfl, rfl⟩))
              refine (c_unpacked _ _ HZM.out).mono ?_; rw [HBS.out]; rintro e w2 ⟨rfl, hb⟩; have HB2 := hide (bthen (below_drewN HB.out _) HB.out.size hb); clear hb
              go_wp2_with fail
              refine (HDC.out _).mono ?_; rintro e w3 ⟨v3, rfl, ho3, hb3⟩; rw [HDD.out] at ho3 ⊢
              have HB3 := hide (bthen HB2.out HB2.out.size hb3); have HO3 := hide ho3; clear hb3 ho3
              go_wp2_with fail
              refine (HST.out _).mono ?_; rw [HIX.out, HAL.out]; rintro e _ ⟨rfl, rfl⟩
              go_wp2_with fail
              refine (c_restore _ xs o _ HO3.out.rd HXS.out (by rw [HXL.out]; omega) ho1).mono ?_; rintro e w4 ⟨v4, rfl, ho4, hb4⟩
              have HB4 := hide (bthen HB3.out HB3.out.size hb4); have HO4 := hide (ho4.more HB3.out.size); clear ho4 hb4
              go_wp2
              go_ret2
              exact DfR.mk HEE.out HO4.out HB4.out
        · have HE := hide (HE4.out hc)
          have ht : (c != 0) = true := by simpa using hc
          go_enter Tryz.func52, Tryz.ntmps52
          go_wp2_with fail
          refine (c_isChecked s _ (by omega) (by omega)).mono ?_; rw [HSB.out]; rintro e w1 ⟨rfl, hb⟩; have HB := hide hb; clear hb
          go_wp2_with fail
          go_quiet ((go_at_call 32; exact Calls.quiet_of (HNA.out _)))
          go_wp2_with (first | (go_at_call 70; refine (c_isOrder _ _).mono ?_; rintro e w' ⟨rfl, rfl⟩) | (go_at_call 71; refine (c_isRice _ _).mono ?_; rintro e w' ⟨rfl, rfl⟩))
          refine (c_unpacked _ _ HZM.out).mono ?_; rw [HBS.out]; rintro e w2 ⟨rfl, hb⟩; have HB2 := hide (bthen (below_drewN HB.out _) HB.out.size hb); clear hb
          go_wp2_with fail
          refine (HDC.out _).mono ?_; rintro e w3 ⟨v3, rfl, ho3, hb3⟩; rw [HDD.out]
          have HB3 := hide (bthen HB2.out HB2.out.size hb3); clear hb3 ho3
          go_wp2
          go_ret2
          exact DfR.mkE HE.out HB3.out
      · have HE := hide (dfr3 h6 HSB.out (show hdB s = false by unfold hdB; simp; omega))
        have HH := hide hh; clear hh
        generalize hnn : numS s 0 = n at *
        generalize bA s 2 = o at *
        generalize bA s 3 = k at *
        have HNN := hide hnn; clear hnn
        by_cases hn1 : n ≤ 256
        · have t1 : ¬ (256 : Int) < (n : Int) := by omega
          by_cases ho1 : o ≤ 3
          · have t2 : inB (o : Int) 0 3 = true := inB_true.2 (by omega)
            have t3 : inB (k : Int) 0 30 = false := inB_false.2 (by have := HH.out; omega)
            go_enter Tryz.func52, Tryz.ntmps52
            go_wp2_with fail
            refine (c_isChecked s _ (by omega) (by omega)).mono ?_; rw [HSB.out]; rintro e w1 ⟨rfl, hb⟩; have HB := hide hb; clear hb
            go_wp2_with fail
            go_quiet ((go_at_call 32; exact Calls.quiet_of (HNA.out _)))
            go_wp2_with (first | (go_at_call 70; refine (c_isOrder _ _).mono ?_; rintro e w' ⟨rfl, rfl⟩) | (go_at_call 71; refine (c_isRice _ _).mono ?_; rintro e w' ⟨rfl, rfl⟩))
            go_ret2
            exact DfR.mkE HE.out (below_drewN HB.out _)
          · have t2 : inB (o : Int) 0 3 = false := inB_false.2 (by omega)
            go_enter Tryz.func52, Tryz.ntmps52
            go_wp2_with fail
            refine (c_isChecked s _ (by omega) (by omega)).mono ?_; rw [HSB.out]; rintro e w1 ⟨rfl, hb⟩; have HB := hide hb; clear hb
            go_wp2_with fail
            go_quiet ((go_at_call 32; exact Calls.quiet_of (HNA.out _)))
            go_wp2_with (go_at_call 70; refine (c_isOrder _ _).mono ?_; rintro e w' ⟨rfl, rfl⟩)
            go_ret2
            exact DfR.mkE HE.out (below_drewN HB.out _)
        · have t1 : (256 : Int) < (n : Int) := by omega
          go_enter Tryz.func52, Tryz.ntmps52
          go_wp2_with fail
          refine (c_isChecked s _ (by omega) (by omega)).mono ?_; rw [HSB.out]; rintro e w1 ⟨rfl, hb⟩; have HB := hide hb; clear hb
          go_wp2_with fail
          go_quiet ((go_at_call 32; exact Calls.quiet_of (HNA.out _)))
          go_wp2
          go_ret2
          exact DfR.mkE HE.out (below_drewN HB.out _)
end Go.Proofs.YtpmflkoepnanoaaGreat
