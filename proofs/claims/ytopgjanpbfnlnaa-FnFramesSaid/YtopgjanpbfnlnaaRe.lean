/- FnFrames: the law. -/
import Derived.Test.YtopgjanpbfnlnaaRd
import Derived.Test.YtopgjanpbfnlnaaQc
import Derived.Test.YtopgjanpbfnlnaaIj
import Derived.Lib.ConvBytes
import Derived.Laws.BitsAllLaws
import Derived.Deep.RegionHeld3
namespace Go.Proofs.Ytopgjanpbfnlnaa
open Go.RowKit
/-- A text as bytes: a new row. -/
theorem conv_bytes (w : World) (s : ByteArray) (hs : s.size ≤ 1073741824) : ∃ cap w4, (convert 9 42 (.string s)).run Try.prog w = .ok (.slice (some ⟨w.heap.size, 0, none⟩) s.size cap) w4 ∧ s.size ≤ cap ∧ cap ≤ 9223372036854775807 ∧ Below w.heap.size w w4 ∧ w4.heap.size = w.heap.size + 1 ∧
    (∀ j, j < s.size → w4.cell? ⟨w.heap.size, j, none⟩ = some (.int .u8 (bA s j : Int))) ∧ (∀ j, j < s.size → w4.frozen? ⟨w.heap.size, j, none⟩ = false) := by
  refine ⟨grownCap w s.size 0 5, Lib.bytesWorld w 5 s, Lib.run_convert_string_bytes w _ _ _ s Try.underlying9 Try.underlying42 Try.underlying5, grownCap_ge _ _ _ _, ?_, ⟨rfl, rfl, rfl, by rw [Lib.bytesWorld_size]; omega, fun j hj => Lib.bytesWorld_at_old w _ s j hj⟩, Lib.bytesWorld_size _ _ _, fun j hj => Lib.bytesWorld_cell w _ s j hj, fun j hj => ?_⟩
  · have := grownCap_le_maxLen w s.size 0 5 (by unfold maxLen; omega)
    unfold maxLen at this
    omega
  · have hsz : s.size ≤ (Lib.bytesCells w 5 s).size := by unfold Lib.bytesCells; rw [Array.size_append, Array.size_map]; exact Nat.le_add_right _ _
    simp [World.frozen?, Lib.bytesWorld_at_new]
    omega
theorem set_read {w : World} {B n cap : Nat} {s : ByteArray} {x : Nat} {z : UInt8} {zn : Nat} (hzn : z.toNat = zn) (hn : n = s.size) (hcap : n ≤ cap) (hc : cap ≤ 9223372036854775807) (hB : B < w.heap.size) (hx : x < s.size)
    (hcell : ∀ j, j < s.size → w.cell? ⟨B, j, none⟩ = some (.int .u8 (bA s j : Int))) : RdY (w.setCell ⟨B, x, none⟩ (.int .u8 (zn : Int))) (.slice (some ⟨B, 0, none⟩) n cap) (s.data.toList.set x z) := by
  subst hn hzn
  have hl : (s.data.toList.set x z).length = s.size := by rw [List.length_set]; exact Array.length_toList
  refine ⟨by simp, some ⟨B, 0, none⟩, cap, by rw [hl], by rw [hl]; exact hcap, hc, fun _ => ⟨B, 0, rfl, by simpa [World.setCell] using hB, fun j u hu => ?_⟩⟩
  rw [List.getElem?_map] at hu
  have hj : j < s.size := by
    rw [← hl]
    by_cases h : j < (s.data.toList.set x z).length
    · exact h
    · rw [List.getElem?_eq_none (by omega)] at hu; simp at hu
  rw [Nat.zero_add]
  by_cases hjx : x = j
  · subst hjx
    rw [List.getElem?_set_self (by rw [← hl] at hj; simpa using hj)] at hu
    have h0 := hcell x hx
    injection hu with hu
    rw [← hu]
    exact World.cell?_setCell_same (h := h0) ..
  · rw [List.getElem?_set_ne hjx] at hu
    have h0 := hcell j hj
    rw [World.cell?_setCell_other (h := (by intro e; injection e with _ e; exact hjx e)), h0, ← hu]
    have hl2 : j < s.data.toList.length := by rw [Array.length_toList]; exact hj
    unfold bA
    rw [List.getD_eq_getElem?_getD, List.getElem?_eq_getElem hl2]
    rfl
set_option maxHeartbeats 1000000 in
set_option maxRecDepth 100000 in
theorem law_Frames (v1 v2 : Value) (c1 c2 : List UInt8) (w : World) (h1 : RdY w v1 c1) (h2 : RdY w v2 c2) : Calls Try.prog 14 #[v1, v2] w fun e w' => e = .returned (.bool true) ∧ Below w.heap.size w w' := by
  have H1 := hide h1; have H2 := hide h2
  clear h1 h2
  cases hlong : (decide (1048576 < c1.length) || decide (1048576 < c2.length))
  · have hl : c1.length ≤ 1048576 ∧ c2.length ≤ 1048576 := by simpa using hlong
    have HL := hide hlong; clear hlong
    go_enter Try.func14, Try.ntmps14
    go_wp2_with fail
    refine (c_v8Long _ _ c1 c2 _ H1.out H2.out).mono ?_; rw [HL.out]; rintro e _ ⟨rfl, rfl⟩
    go_wp2_with fail
    refine (c_E8Signal _ c1 30 _ H1.out (by omega) (by omega)).mono ?_; rintro e w1 ⟨va, xs, rfl, ho, hxs, hxl, hb⟩
    have HO := hide ho; have HXS := hide hxs; have HB1 := hide hb; have hs1 := hb.size; clear ho hxs hb
    have hsig : sigB xs = true := sigB_true.2 ⟨(by omega : xs.length ≤ 4000), HXS.out⟩
    obtain ⟨o, k, hok⟩ : ∃ o k, ordR xs = (o, k) := ⟨_, _, rfl⟩
    have hod := ordR_bd HXS.out
    rw [hok] at hod
    have HEN := hide (show encFrF xs = (frameS xs o k, 0) by unfold encFrF; rw [if_pos hsig, if_neg (by omega), hok])
    have hfz := size_frameS HXS.out (by omega)
    rw [hok] at hfz
    have HDF := hide (decFrF_frameS HXS.out (show xs.length ≤ 256 by omega) hod.1 hod.2)
    have HFR := hide (show frameS xs o k = mkS (frameL xs o k ++ wordL (crcF (frameL xs o k) 65535)) by unfold frameS; rw [sealS_mk])
    clear hsig hok hod
    generalize frameS xs o k = fr at *
    generalize frameL xs o k = fl at *
    go_wp2_with fail
    refine (c_iEncodeFrame _ xs _ HO.out.rd (by omega)).mono ?_; rintro e w2 ⟨rfl, hb⟩; rw [HEN.out]
    have HB2 := hide (bthen HB1.out hs1 hb); have HO2 := hide (own_all HO.out hb); have hs2 := HB2.out.size; clear hb
    go_wp2_with fail
    refine (c_iDf _ (xs, 0) _ (by omega) HDF.out).mono ?_; rintro e w3 ⟨vb, rfl, hob, hb⟩
    have HB3 := hide (bthen HB2.out hs2 hb); have HO3 : Sec (OwI 2 w3 w.heap.size va xs) := hide (own_all HO2.out hb); have HOB : Sec (OwI 2 w3 w2.heap.size vb xs) := hide hob; have hs3 := HB3.out.size; clear hb hob
    go_wp2_with fail
    refine (c_v8Same _ _ xs xs _ HOB.out.rd HO3.out.rd).mono ?_; rw [decide_eq_true (rfl : xs = xs)]; rintro e _ ⟨rfl, n1, rfl⟩
    obtain ⟨cap, w4, hcv, hcp1, hcp2, hb, hsz4, hcl, hfr4⟩ := conv_bytes (w3.drewN n1) fr (by omega)
    have hcv2 : (convert 9 42 (.string fr)).run Try.prog (w3.drewN n1) = .ok (.slice (some ⟨w3.heap.size, 0, none⟩) fr.size cap) w4 := hcv
    have HB4 := hide (bthen (below_drewN HB3.out n1) hs3 hb); have HC := hide hcl; have HF := hide hfr4; have HZ4 := hide (show w4.heap.size = w3.heap.size + 1 from hsz4)
    have H24 := hide (H2.out.below HB4.out)
    clear hcv hb hcl hfr4 hsz4
    go_wp2_with fail
    clear hcv2
    refine (c_v8At _ c2 0 fr.size _ H24.out (by omega) (by omega) (by omega)).mono ?_; rintro e _ ⟨x, rfl, hx, n2, rfl⟩
    have hxl2 : x < fr.size := by omega
    have hy := bA_lt fr x
    have hce := HC.out x hxl2; have hfe := HF.out x hxl2
    generalize hyy : bA fr x = y at *
    have HYY := hide hyy; clear hyy hx
    have tx : (x : Int) < (fr.size : Int) := by omega
    replace hce : w4.cell? ⟨w3.heap.size, x, none⟩ = some (.int .u8 (y : Int)) := hce
    replace hfe : w4.frozen? ⟨w3.heap.size, x, none⟩ = false := hfe
    go_wp2_with fail
    go_region_with (go_at_call 48; refine (c_v8At _ c2 2 255 _ (by exact H24.out) (by omega) (by omega) (by omega)).mono ?_; rintro e _ ⟨d, rfl, hd, n3, rfl⟩; have hd1 : d < 255 := (by omega); obtain ⟨m, hm⟩ : ∃ m, 1 + d = m := ⟨_, rfl⟩; have hm1 : 1 ≤ m ∧ m < 256 := (by omega); obtain ⟨z, hz⟩ : ∃ z, y ^^^ m = z := ⟨_, rfl⟩; have e7 : IntKind.i64.wrap (1 + (d : Int)) = (m : Int) := (by rw [IntWalk.i64_in _ (by omega)]; omega); have e8 : IntKind.u8.wrap (m : Int) = (m : Int) := (IntWalk.u8_in _ (by omega)); have e9 : bits .xor .u8 (y : Int) (m : Int) = (z : Int) := (by rw [← hz]; exact u8_xor_nat y m hy (by omega)); have HZZ := hide hz; have HMM := hide hm1; clear hz hm hm1)
    all_goals
      have hz256 : z < 256 := by rw [← HZZ.out]; have := HMM.out; exact Nat.xor_lt_two_pow (n := 8) hy (by omega)
      have HNE := hide (show z ≠ y from fun e => by have h1 := HZZ.out; rw [e] at h1; have h2 : y ^^^ m = y ^^^ 0 := by rw [h1, Nat.xor_zero]
                                                    have h3 := xor_cancel_left h2; have := HMM.out; omega)
      have hzn : (UInt8.ofNat z).toNat = z := by simp; omega
      have HRD := hide (fun (w' : World) (hw' : ∃ n, w' = w4.drewN n) => set_read (w := w') (B := w3.heap.size) (cap := cap) hzn (rfl : fr.size = fr.size) hcp1 hcp2 (by obtain ⟨n, rfl⟩ := hw'; show w3.heap.size < w4.heap.size; rw [HZ4.out]; omega) hxl2 (by obtain ⟨n, rfl⟩ := hw'; exact HC.out))
      have HDL := hide (show fr.data.toList = fl ++ wordL (crcF fl 65535) by rw [HFR.out, data_mkS])
      have HDE := hide (show decFrF (mkS (fr.data.toList.set x (UInt8.ofNat z))) = ([], 10) by
        have hsz : (mkS (fr.data.toList.set x (UInt8.ofNat z))).size = fr.size := by rw [size_mkS, List.length_set]; exact Array.length_toList
        refine dfr2 (by rw [hsz]; omega) ?_
        have hli : x < fr.data.toList.length := by rw [Array.length_toList]; exact hxl2
        have hbx : UInt8.ofNat z ≠ fr.data.toList[x] := by
          intro e
          have h1 := congrArg UInt8.toNat e
          rw [hzn] at h1
          apply HNE.out
          rw [h1, ← HYY.out]
          unfold bA
          rw [List.getD_eq_getElem?_getD, List.getElem?_eq_getElem hli]; rfl
        revert hli hbx
        rw [HDL.out]
        intro hli hbx
        exact sealed_set fl x _ hli hbx)
      have hmz : (mkS (fr.data.toList.set x (UInt8.ofNat z))).size ≤ 1048576 := by rw [size_mkS, List.length_set, Array.length_toList]; show fr.size ≤ _; omega
      have HMZ := hide hmz; clear hmz
      have hst := fun n => str_of (HRD.out (w4.drewN n) ⟨n, rfl⟩)
      generalize fr.data.toList.set x (UInt8.ofNat z) = tl at *
      go_wp2_with fail
      refine (c_iDf _ ([], 10) _ HMZ.out HDE.out).mono ?_; rintro e w6 ⟨v6, rfl, _, hb6⟩
      have HB6 := hide (bthen (((below_drewN HB4.out _).setCell hs3 _)) (by show _ ≤ (World.setCell _ _ _).heap.size; simp [World.setCell]; have := HB4.out.size; omega) hb6)
      clear hb6 hst
      go_wp2
      go_ret
      exact ⟨rfl, HB6.out⟩
  · have HL := hide hlong; clear hlong
    go_enter Try.func14, Try.ntmps14
    go_wp2_with fail
    refine (c_v8Long _ _ c1 c2 _ H1.out H2.out).mono ?_; rw [HL.out]; rintro e _ ⟨rfl, rfl⟩
    go_wp2
    go_ret
    exact ⟨rfl, Below.refl _ _⟩
end Go.Proofs.Ytopgjanpbfnlnaa
