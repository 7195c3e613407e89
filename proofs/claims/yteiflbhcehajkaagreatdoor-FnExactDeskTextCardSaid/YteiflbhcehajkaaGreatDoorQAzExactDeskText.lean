/- Contract: tunings, reference. -/
import Derived.Test.YteiflbhcehajkaaGreatDoorQAyExactDeskText
set_option linter.unusedVariables false
set_option linter.unusedSimpArgs false
namespace Go.Proofs.YteiflbhcehajkaaGreatDoor
open Go.RowKit
set_option maxHeartbeats 4000000 in
set_option maxRecDepth 100000 in
theorem c_l15Ok (x : GTuning) (b o : Nat) (w : World) (h : T.at w x.fs b o) : Calls Tryz.prog 92 #[.pointer (some ⟨b, o, none⟩)] w fun e w' => e = .returned (.bool (tf (TuningOk x))) ∧ Below w.heap.size w w' := by
  have HAT := hide h
  obtain ⟨hlt0, cs, hr, hc⟩ := h
  obtain ⟨v4, rfl, h4⟩ := GTuning.rd_open hr
  clear hr
  have R4 := hide h4; obtain ⟨va4, vc4, rfl, vl4, vm4, vx4⟩ := T.rd_openG h4
  have HX4 := hide vx4; clear vx4 h4
  have HL := hide hlt0; have HCC := hide hc; have HB0 := hide (Below.refl w.heap.size w); clear hlt0 hc
  have HTI := hide (@TuningOk.iff x)
  have hln : x.fRatios.length ≤ 9223372036854775807 := by have := vl4; have := vm4; omega
  have p0 : w.cell? ⟨b, o, none⟩ = some (.int .i64 x.fBase.fNum) := (HB0.out.cell HL.out).trans (HCC.out 0 _ rfl)
  have p1 : w.cell? ⟨b, o + 1, none⟩ = some (.int .i64 x.fBase.fDen) := (HB0.out.cell HL.out).trans (HCC.out 1 _ rfl)
  have p2 : w.cell? ⟨b, o + 2, none⟩ = some (.int .i64 x.fOctave.fNum) := (HB0.out.cell HL.out).trans (HCC.out 2 _ rfl)
  have p3 : w.cell? ⟨b, o + 3, none⟩ = some (.int .i64 x.fOctave.fDen) := (HB0.out.cell HL.out).trans (HCC.out 3 _ rfl)
  have p4 : w.cell? ⟨b, o + 4, none⟩ = some (.slice va4 x.fRatios.length vc4) := (HB0.out.cell HL.out).trans (HCC.out 4 _ rfl)
  have lb : b < w.heap.size := Nat.lt_of_lt_of_le HL.out HB0.out.size
  by_cases h1 : fracOk x.fBase
  rotate_left
  ·
    have q1 := tf_no h1; have N_ := hide h1; clear h1
    go_enter Tryz.func92, Tryz.ntmps92
    go_wp2
    have g0 := bel_cell p0
    have g1 := bel_cell p1
    have g2 := bel_cell p2
    have g3 := bel_cell p3
    have g4 := bel_cell p4
    refine wp_region_bel (by kernel_rfl) (by kernel_rfl) ?_
    repeat (first | go_big_quiet_skip | (go_big_quiet_want; go_big_quiet_op; first | go_big_quiet_on | (apply Exists.intro; refine ⟨fun _ => ?_, ?_⟩; (· (first | (go_at_call_of 138 (Value.agg #[.int .i64 x.fBase.fNum, .int .i64 x.fBase.fDen]); exact Calls.quiet_bel ((c_l02Ok x.fBase _ _ GFrac.rd_mk).mono (fun e w' h => by (first | rw [q1] at h | skip); exact h))))); go_big_quiet_on)))
    refine wpQuiet_nil ?_
    rintro w9 ⟨uu, rfl⟩
    have hb9 := bel_below w uu
    generalize bel w uu = w9 at *
    have HB9 := hide hb9; clear hb9 g0 g1 g2 g3 g4
    clear p0 p1 p2 p3 p4 lb
    have p4 : w9.cell? ⟨b, o + 4, none⟩ = some (.slice va4 x.fRatios.length vc4) := (HB9.out.cell HL.out).trans (HCC.out 4 _ rfl)
    have lb : b < w9.heap.size := Nat.lt_of_lt_of_le HL.out HB9.out.size
    go_wp2
    go_ret
    exact ⟨ret_bool (tf_no (fun h => N_.out (HTI.out.1 h).1.1)).symm, HB9.out⟩
  have q1 := tf_yes h1; have H1 := hide h1; clear h1
  by_cases h2 : 0 < x.fBase.fNum
  rotate_left
  ·
    have q2 : decide (x.fBase.fNum ≤ 0) = true := decide_eq_true (by omega)
    have N_ := hide h2; clear h2
    go_enter Tryz.func92, Tryz.ntmps92
    go_wp2
    have g0 := bel_cell p0
    have g1 := bel_cell p1
    have g2 := bel_cell p2
    have g3 := bel_cell p3
    have g4 := bel_cell p4
    refine wp_region_bel (by kernel_rfl) (by kernel_rfl) ?_
    repeat (first | go_big_quiet_skip | (go_big_quiet_want; go_big_quiet_op; first | go_big_quiet_on | (apply Exists.intro; refine ⟨fun _ => ?_, ?_⟩; (· (first | (go_at_call_of 138 (Value.agg #[.int .i64 x.fBase.fNum, .int .i64 x.fBase.fDen]); exact Calls.quiet_bel ((c_l02Ok x.fBase _ _ GFrac.rd_mk).mono (fun e w' h => by (first | rw [q1] at h | skip); exact h))))); go_big_quiet_on)))
    refine wpQuiet_nil ?_
    rintro w9 ⟨uu, rfl⟩
    have hb9 := bel_below w uu
    generalize bel w uu = w9 at *
    have HB9 := hide hb9; clear hb9 g0 g1 g2 g3 g4
    clear p0 p1 p2 p3 p4 lb
    have p4 : w9.cell? ⟨b, o + 4, none⟩ = some (.slice va4 x.fRatios.length vc4) := (HB9.out.cell HL.out).trans (HCC.out 4 _ rfl)
    have lb : b < w9.heap.size := Nat.lt_of_lt_of_le HL.out HB9.out.size
    go_wp2
    go_ret
    exact ⟨ret_bool (tf_no (fun h => by have q := (HTI.out.1 h).2.2.1; have r := N_.out; omega)).symm, HB9.out⟩
  have q2 : decide (x.fBase.fNum ≤ 0) = false := decide_eq_false (by omega)
  have H2 := hide h2; clear h2
  by_cases h3 : fracOk x.fOctave
  rotate_left
  ·
    have q3 := tf_no h3; have N_ := hide h3; clear h3
    go_enter Tryz.func92, Tryz.ntmps92
    go_wp2
    have g0 := bel_cell p0
    have g1 := bel_cell p1
    have g2 := bel_cell p2
    have g3 := bel_cell p3
    have g4 := bel_cell p4
    refine wp_region_bel (by kernel_rfl) (by kernel_rfl) ?_
    repeat (first | go_big_quiet_skip | (go_big_quiet_want; go_big_quiet_op; first | go_big_quiet_on | (apply Exists.intro; refine ⟨fun _ => ?_, ?_⟩; (· (first | (go_at_call_of 138 (Value.agg #[.int .i64 x.fBase.fNum, .int .i64 x.fBase.fDen]); exact Calls.quiet_bel ((c_l02Ok x.fBase _ _ GFrac.rd_mk).mono (fun e w' h => by (first | rw [q1] at h | skip); exact h))) | (go_at_call_of 138 (Value.agg #[.int .i64 x.fOctave.fNum, .int .i64 x.fOctave.fDen]); exact Calls.quiet_bel ((c_l02Ok x.fOctave _ _ GFrac.rd_mk).mono (fun e w' h => by (first | rw [q3] at h | skip); exact h))))); go_big_quiet_on)))
    refine wpQuiet_nil ?_
    rintro w9 ⟨uu, rfl⟩
    have hb9 := bel_below w uu
    generalize bel w uu = w9 at *
    have HB9 := hide hb9; clear hb9 g0 g1 g2 g3 g4
    clear p0 p1 p2 p3 p4 lb
    have p4 : w9.cell? ⟨b, o + 4, none⟩ = some (.slice va4 x.fRatios.length vc4) := (HB9.out.cell HL.out).trans (HCC.out 4 _ rfl)
    have lb : b < w9.heap.size := Nat.lt_of_lt_of_le HL.out HB9.out.size
    go_wp2
    go_ret
    exact ⟨ret_bool (tf_no (fun h => N_.out (HTI.out.1 h).1.2)).symm, HB9.out⟩
  have q3 := tf_yes h3; have H3 := hide h3; clear h3
  obtain ⟨cc, hcc⟩ : ∃ cc, cmpFr x.fOctave ⟨1, 1⟩ = cc := ⟨_, rfl⟩
  have CP := hide (fun W => (by have := c_l02Compare x.fOctave ⟨1, 1⟩ W H3.out fracOk_1; rw [hcc] at this; exact this : Calls Tryz.prog 139 #[.agg #[.int .i64 x.fOctave.fNum, .int .i64 x.fOctave.fDen], .agg #[.int .i64 1, .int .i64 1]] W fun e w' => e = .returned (.int .i64 cc) ∧ Below W.heap.size W w'))
  have HCC4 := hide hcc; clear hcc
  by_cases h4 : 0 < cc
  rotate_left
  ·
    have q4 : decide (cc ≤ 0) = true := decide_eq_true (by omega)
    have N_ := hide h4; clear h4
    go_enter Tryz.func92, Tryz.ntmps92
    go_wp2
    have g0 := bel_cell p0
    have g1 := bel_cell p1
    have g2 := bel_cell p2
    have g3 := bel_cell p3
    have g4 := bel_cell p4
    refine wp_region_bel (by kernel_rfl) (by kernel_rfl) ?_
    repeat (first | go_big_quiet_skip | (go_big_quiet_want; go_big_quiet_op; first | go_big_quiet_on | (apply Exists.intro; refine ⟨fun _ => ?_, ?_⟩; (· (first | (go_at_call_of 138 (Value.agg #[.int .i64 x.fBase.fNum, .int .i64 x.fBase.fDen]); exact Calls.quiet_bel ((c_l02Ok x.fBase _ _ GFrac.rd_mk).mono (fun e w' h => by (first | rw [q1] at h | skip); exact h))) | (go_at_call_of 138 (Value.agg #[.int .i64 x.fOctave.fNum, .int .i64 x.fOctave.fDen]); exact Calls.quiet_bel ((c_l02Ok x.fOctave _ _ GFrac.rd_mk).mono (fun e w' h => by (first | rw [q3] at h | skip); exact h))) | (go_at_call 140; exact Calls.quiet_bel (c_l15One _)) | (go_at_call 139; exact Calls.quiet_bel (CP.out _)))); go_big_quiet_on)))
    refine wpQuiet_nil ?_
    rintro w9 ⟨uu, rfl⟩
    have hb9 := bel_below w uu
    generalize bel w uu = w9 at *
    have HB9 := hide hb9; clear hb9 g0 g1 g2 g3 g4
    clear p0 p1 p2 p3 p4 lb
    have p4 : w9.cell? ⟨b, o + 4, none⟩ = some (.slice va4 x.fRatios.length vc4) := (HB9.out.cell HL.out).trans (HCC.out 4 _ rfl)
    have lb : b < w9.heap.size := Nat.lt_of_lt_of_le HL.out HB9.out.size
    go_wp2
    go_ret
    exact ⟨ret_bool (tf_no (fun h => by have q := (HTI.out.1 h).2.2.2.1; rw [HCC4.out] at q; have r := N_.out; omega)).symm, HB9.out⟩
  have q4 : decide (cc ≤ 0) = false := decide_eq_false (by omega)
  have H4 := hide h4; clear h4
  by_cases h5 : inB (x.fRatios.length : Int) 1 24 = true
  rotate_left
  ·
    have q5 : inB (x.fRatios.length : Int) 1 24 = false := (by simpa using h5); have N_ := hide h5; clear h5
    go_enter Tryz.func92, Tryz.ntmps92
    go_wp2
    have g0 := bel_cell p0
    have g1 := bel_cell p1
    have g2 := bel_cell p2
    have g3 := bel_cell p3
    have g4 := bel_cell p4
    refine wp_region_bel (by kernel_rfl) (by kernel_rfl) ?_
    repeat (first | go_big_quiet_skip | (go_big_quiet_want; go_big_quiet_op; first | go_big_quiet_on | (apply Exists.intro; refine ⟨fun _ => ?_, ?_⟩; (· (first | (go_at_call_of 138 (Value.agg #[.int .i64 x.fBase.fNum, .int .i64 x.fBase.fDen]); exact Calls.quiet_bel ((c_l02Ok x.fBase _ _ GFrac.rd_mk).mono (fun e w' h => by (first | rw [q1] at h | skip); exact h))) | (go_at_call_of 138 (Value.agg #[.int .i64 x.fOctave.fNum, .int .i64 x.fOctave.fDen]); exact Calls.quiet_bel ((c_l02Ok x.fOctave _ _ GFrac.rd_mk).mono (fun e w' h => by (first | rw [q3] at h | skip); exact h))) | (go_at_call 140; exact Calls.quiet_bel (c_l15One _)) | (go_at_call 139; exact Calls.quiet_bel (CP.out _)) | (go_at_call 56; exact Calls.quiet_bel_same ((c_l00In _ _ _ _).mono (fun e w' h => by (first | rw [q5] at h | skip); exact h))))); go_big_quiet_on)))
    refine wpQuiet_nil ?_
    rintro w9 ⟨uu, rfl⟩
    have hb9 := bel_below w uu
    generalize bel w uu = w9 at *
    have HB9 := hide hb9; clear hb9 g0 g1 g2 g3 g4
    clear p0 p1 p2 p3 p4 lb
    have p4 : w9.cell? ⟨b, o + 4, none⟩ = some (.slice va4 x.fRatios.length vc4) := (HB9.out.cell HL.out).trans (HCC.out 4 _ rfl)
    have lb : b < w9.heap.size := Nat.lt_of_lt_of_le HL.out HB9.out.size
    go_wp2
    go_ret
    exact ⟨ret_bool (tf_no (fun h => N_.out (inB_iff.2 (by have q := (HTI.out.1 h).2.2.2.2.1; omega)))).symm, HB9.out⟩
  have q5 := h5; have k5 := inB_iff.1 h5; clear h5
  have hl0 : 0 < x.fRatios.length := by omega
  have hg0 := List.getElem?_eq_getElem hl0
  obtain ⟨b0, of0, cs0, hA0, hb0, hcs0, hcell0⟩ := HX4.out 0 x.fRatios[0] hg0
  subst hA0
  have HFI := hide (show (x.fRatios.getD 0 zeroFr) = x.fRatios[0] by rw [List.getD_eq_getElem?_getD, hg0]; rfl)
  generalize x.fRatios[0] = z at *; clear hg0
  have HBr := hide (Below.refl w.heap.size w)
  obtain rfl := GFrac.rd_open (show T.rds _ _ _ by simpa only [GFrac.t, T.rd] using hcs0)
  have z0 := (HBr.out.cell hb0).trans (hcell0 0 (.int .i64 z.fNum) rfl)
  have z1 := (HBr.out.cell hb0).trans (hcell0 1 (.int .i64 z.fDen) rfl)
  rw [show of0 + (0 * 2 + 0) = of0 by omega] at z0
  rw [show of0 + (0 * 2 + 1) = of0 + 1 by omega] at z1
  clear hcs0 hcell0
  have Z0 := hide z0; have Z1 := hide z1; clear z0 z1
  have hgd := eqg_Frac
  by_cases h6 : z = ⟨1, 1⟩
  rotate_left
  ·
    have e0 : ∀ w, (Op.equalIn 10000 64 (.agg #[.int .i64 z.fNum, .int .i64 z.fDen]) (.agg #[.int .i64 1, .int .i64 1])).run Tryz.prog w = .ok false w := by have := eq_Frac 9998 z ⟨1, 1⟩; rw [decide_eq_false h6] at this; exact this
    have N_ := hide h6; clear h6
    go_enter Tryz.func92, Tryz.ntmps92
    go_wp2
    have g0 := bel_cell p0
    have g1 := bel_cell p1
    have g2 := bel_cell p2
    have g3 := bel_cell p3
    have g4 := bel_cell p4
    have g5 := bel_cell Z0.out; have g6 := bel_cell Z1.out
    refine wp_region_bel (by kernel_rfl) (by kernel_rfl) ?_
    repeat (first | go_big_quiet_skip | (go_big_quiet_want; go_big_quiet_op; first | go_big_quiet_on | (apply Exists.intro; refine ⟨fun _ => ?_, ?_⟩; (· (first | (go_at_call_of 138 (Value.agg #[.int .i64 x.fBase.fNum, .int .i64 x.fBase.fDen]); exact Calls.quiet_bel ((c_l02Ok x.fBase _ _ GFrac.rd_mk).mono (fun e w' h => by (first | rw [q1] at h | skip); exact h))) | (go_at_call_of 138 (Value.agg #[.int .i64 x.fOctave.fNum, .int .i64 x.fOctave.fDen]); exact Calls.quiet_bel ((c_l02Ok x.fOctave _ _ GFrac.rd_mk).mono (fun e w' h => by (first | rw [q3] at h | skip); exact h))) | (go_at_call 140; exact Calls.quiet_bel (c_l15One _)) | (go_at_call 139; exact Calls.quiet_bel (CP.out _)) | (go_at_call 56; exact Calls.quiet_bel_same ((c_l00In _ _ _ _).mono (fun e w' h => by (first | rw [q5] at h | skip); exact h))))); go_big_quiet_on)))
    refine wpQuiet_nil ?_
    rintro w9 ⟨uu, rfl⟩
    have hb9 := bel_below w uu
    generalize bel w uu = w9 at *
    have HB9 := hide hb9; clear hb9 g0 g1 g2 g3 g4 g5 g6
    clear p0 p1 p2 p3 p4 lb
    have p4 : w9.cell? ⟨b, o + 4, none⟩ = some (.slice (some ⟨b0, of0, none⟩) x.fRatios.length vc4) := (HB9.out.cell HL.out).trans (HCC.out 4 _ rfl)
    have lb : b < w9.heap.size := Nat.lt_of_lt_of_le HL.out HB9.out.size
    go_wp2
    go_ret
    exact ⟨ret_bool (tf_no (fun h => N_.out (by rw [← HFI.out]; exact (HTI.out.1 h).2.2.2.2.2.1))).symm, HB9.out⟩
  have e0 : ∀ w, (Op.equalIn 10000 64 (.agg #[.int .i64 z.fNum, .int .i64 z.fDen]) (.agg #[.int .i64 1, .int .i64 1])).run Tryz.prog w = .ok true w := by have := eq_Frac 9998 z ⟨1, 1⟩; rw [decide_eq_true h6] at this; exact this
  have H6 := hide (HFI.out.trans h6); clear h6
  go_enter Tryz.func92, Tryz.ntmps92
  go_wp2
  have g0 := bel_cell p0
  have g1 := bel_cell p1
  have g2 := bel_cell p2
  have g3 := bel_cell p3
  have g4 := bel_cell p4
  have g5 := bel_cell Z0.out; have g6 := bel_cell Z1.out
  refine wp_region_bel (by kernel_rfl) (by kernel_rfl) ?_
  repeat (first | go_big_quiet_skip | (go_big_quiet_want; go_big_quiet_op; first | go_big_quiet_on | (apply Exists.intro; refine ⟨fun _ => ?_, ?_⟩; (· (first | (go_at_call_of 138 (Value.agg #[.int .i64 x.fBase.fNum, .int .i64 x.fBase.fDen]); exact Calls.quiet_bel ((c_l02Ok x.fBase _ _ GFrac.rd_mk).mono (fun e w' h => by (first | rw [q1] at h | skip); exact h))) | (go_at_call_of 138 (Value.agg #[.int .i64 x.fOctave.fNum, .int .i64 x.fOctave.fDen]); exact Calls.quiet_bel ((c_l02Ok x.fOctave _ _ GFrac.rd_mk).mono (fun e w' h => by (first | rw [q3] at h | skip); exact h))) | (go_at_call 140; exact Calls.quiet_bel (c_l15One _)) | (go_at_call 139; exact Calls.quiet_bel (CP.out _)) | (go_at_call 56; exact Calls.quiet_bel_same ((c_l00In _ _ _ _).mono (fun e w' h => by (first | rw [q5] at h | skip); exact h))))); go_big_quiet_on)))
  refine wpQuiet_nil ?_
  rintro w9 ⟨uu, rfl⟩
  have hb9 := bel_below w uu
  generalize bel w uu = w9 at *
  have HB9 := hide hb9; clear hb9 g0 g1 g2 g3 g4 g5 g6
  clear p0 p1 p2 p3 p4 lb
  have p4 : w9.cell? ⟨b, o + 4, none⟩ = some (.slice (some ⟨b0, of0, none⟩) x.fRatios.length vc4) := (HB9.out.cell HL.out).trans (HCC.out 4 _ rfl)
  have lb : b < w9.heap.size := Nat.lt_of_lt_of_le HL.out HB9.out.size
  go_wp2
  clear e0 hgd q1 q2 q3 q4 q5 p4 lb hln
  go_loopw [3] (fun i wr => ∃ k : Nat, k ≤ x.fRatios.length ∧ i = .int .i64 k ∧ Upto x.fRatios (fun i r => fracOk r ∧ TuneE x i r) k ∧ Below w9.heap.size w9 wr) (fun i _ => x.fRatios.length - (intOf i).toNat)
  case atStart => exact ⟨0, Nat.zero_le _, rfl, Upto.zero, Below.refl _ _⟩
  case round =>
    obtain ⟨k, hk, rfl, hs, hbw⟩ := hrel
    have HS := hide hs; have HW := hide hbw; have HB := hide (bthen HB9.out HB9.out.size hbw); clear hs hbw
    have p2 : wr.cell? ⟨b, o + 2, none⟩ = some (.int .i64 x.fOctave.fNum) := (HB.out.cell HL.out).trans (HCC.out 2 _ rfl)
    have p3 : wr.cell? ⟨b, o + 3, none⟩ = some (.int .i64 x.fOctave.fDen) := (HB.out.cell HL.out).trans (HCC.out 3 _ rfl)
    have p4 : wr.cell? ⟨b, o + 4, none⟩ = some (.slice (some ⟨b0, of0, none⟩) x.fRatios.length vc4) := (HB.out.cell HL.out).trans (HCC.out 4 _ rfl)
    have lb : b < wr.heap.size := Nat.lt_of_lt_of_le HL.out HB.out.size
    by_cases hlt : k < x.fRatios.length
    rotate_left
    ·
      have hall := HS.out.all (show x.fRatios.length ≤ k by omega)
      have HAL := hide (HTI.out.2 ⟨⟨H1.out, H3.out⟩, fun i r hr => (hall i r hr).1, H2.out, by rw [HCC4.out]; exact H4.out, by omega, H6.out, fun i r hr => (hall i r hr).2⟩); clear hall
      go_wp2
      go_ret
      exact ⟨ret_bool (tf_yes HAL.out).symm, HB.out⟩
    have hgk := List.getElem?_eq_getElem hlt
    obtain ⟨b1, off, cs1, hA, hb1, hcs, hcell⟩ := HX4.out k x.fRatios[k] hgk
    obtain ⟨rfl, rfl⟩ : b0 = b1 ∧ of0 = off := by injection hA with hA; injection hA with e1 e2; exact ⟨e1, e2⟩
    clear hA
    generalize hyy : x.fRatios[k] = y at *; clear hyy
    have HG := hide hgk; clear hgk
    obtain rfl := GFrac.rd_open (show T.rds _ _ _ by simpa only [GFrac.t, T.rd] using hcs)
    have d0 := (HB.out.cell hb1).trans (hcell 0 (.int .i64 y.fNum) rfl)
    have d1 := (HB.out.cell hb1).trans (hcell 1 (.int .i64 y.fDen) rfl)
    rw [show of0 + (k * 2 + 0) = of0 + k * 2 by omega] at d0
    rw [show of0 + (k * 2 + 1) = of0 + k * 2 + 1 by omega] at d1
    clear hcs hcell
    have i1 : (k : Int) < (x.fRatios.length : Int) := by omega
    by_cases h6 : fracOk y
    rotate_left
    ·
      have q6 := tf_no h6; have N_ := hide h6; clear h6
      go_wp2
      have g0 := bel_cell p2
      have g1 := bel_cell p3
      have g2 := bel_cell p4
      have g3 := bel_cell d0
      have g4 := bel_cell d1
      clear p2 p3 p4 d0 d1 lb
      refine wp_region_bel (by kernel_rfl) (by kernel_rfl) ?_
      repeat (first | go_big_quiet_skip | (go_big_quiet_want; go_big_quiet_op; first | go_big_quiet_on | (apply Exists.intro; refine ⟨fun _ => ?_, ?_⟩; (· (first | (go_at_call 138; exact Calls.quiet_bel ((c_l02Ok y _ _ GFrac.rd_mk).mono (fun e w' h => by (first | rw [q6] at h | skip); exact h))))); go_big_quiet_on)))
      refine wpQuiet_nil ?_
      rintro wz ⟨uu, rfl⟩
      have hb9 := bel_below wr uu
      generalize bel wr uu = wz at *
      have HC2 := hide (bthen HB.out HB.out.size hb9); have HC3 := hide (bthen HW.out HW.out.size hb9); clear hb9 g0 g1 g2 g3 g4
      go_wp2
      go_ret
      exact ⟨ret_bool (tf_no (fun h => N_.out ((HTI.out.1 h).2.1 k y HG.out))).symm, HC2.out⟩
    have q6 := tf_yes h6; have HY := hide h6; clear h6
    obtain ⟨c1, hc1⟩ : ∃ cc, cmpFr y x.fOctave = cc := ⟨_, rfl⟩
    have C1 := hide (fun W => (by have := c_l02Compare y x.fOctave W HY.out H3.out; rw [hc1] at this; exact this : Calls Tryz.prog 139 #[.agg #[.int .i64 y.fNum, .int .i64 y.fDen], .agg #[.int .i64 x.fOctave.fNum, .int .i64 x.fOctave.fDen]] W fun e w' => e = .returned (.int .i64 c1) ∧ Below W.heap.size W w'))
    have HC1 := hide hc1; clear hc1
    by_cases h7 : c1 < 0
    rotate_left
    ·
      have k7 : decide ((0 : Int) ≤ c1) = true := decide_eq_true (by omega)
      have N_ := hide h7; clear h7
      go_wp2
      have g0 := bel_cell p2
      have g1 := bel_cell p3
      have g2 := bel_cell p4
      have g3 := bel_cell d0
      have g4 := bel_cell d1
      clear p2 p3 p4 d0 d1 lb
      refine wp_region_bel (by kernel_rfl) (by kernel_rfl) ?_
      repeat (first | go_big_quiet_skip | (go_big_quiet_want; go_big_quiet_op; first | go_big_quiet_on | (apply Exists.intro; refine ⟨fun _ => ?_, ?_⟩; (· (first | (go_at_call 138; exact Calls.quiet_bel ((c_l02Ok y _ _ GFrac.rd_mk).mono (fun e w' h => by (first | rw [q6] at h | skip); exact h))) | (go_at_call_of 139 (Value.agg #[.int .i64 x.fOctave.fNum, .int .i64 x.fOctave.fDen]); exact Calls.quiet_bel (C1.out _)))); go_big_quiet_on)))
      refine wpQuiet_nil ?_
      rintro wz ⟨uu, rfl⟩
      have hb9 := bel_below wr uu
      generalize bel wr uu = wz at *
      have HC2 := hide (bthen HB.out HB.out.size hb9); have HC3 := hide (bthen HW.out HW.out.size hb9); clear hb9 g0 g1 g2 g3 g4
      go_wp2
      go_ret
      exact ⟨ret_bool (tf_no (fun h => by have q := ((HTI.out.1 h).2.2.2.2.2.2 k y HG.out).1; rw [HC1.out] at q; have r := N_.out; omega)).symm, HC2.out⟩
    have k7 : decide ((0 : Int) ≤ c1) = false := decide_eq_false (by omega)
    have H7 := hide h7; clear h7
    by_cases hk0 : k = 0
    ·
      have g_ : decide (0 < k) = false := decide_eq_false (by omega)
      have K0 := hide hk0; clear hk0
      go_wp2
      have g0 := bel_cell p2
      have g1 := bel_cell p3
      have g2 := bel_cell p4
      have g3 := bel_cell d0
      have g4 := bel_cell d1
      clear p2 p3 p4 d0 d1 lb
      refine wp_region_bel (by kernel_rfl) (by kernel_rfl) ?_
      repeat (first | go_big_quiet_skip | (go_big_quiet_want; go_big_quiet_op; first | go_big_quiet_on | (apply Exists.intro; refine ⟨fun _ => ?_, ?_⟩; (· (first | (go_at_call 138; exact Calls.quiet_bel ((c_l02Ok y _ _ GFrac.rd_mk).mono (fun e w' h => by (first | rw [q6] at h | skip); exact h))) | (go_at_call_of 139 (Value.agg #[.int .i64 x.fOctave.fNum, .int .i64 x.fOctave.fDen]); exact Calls.quiet_bel (C1.out _)))); go_big_quiet_on)))
      refine wpQuiet_nil ?_
      rintro wz ⟨uu, rfl⟩
      have hb9 := bel_below wr uu
      generalize bel wr uu = wz at *
      have HC2 := hide (bthen HB.out HB.out.size hb9); have HC3 := hide (bthen HW.out HW.out.size hb9); clear hb9 g0 g1 g2 g3 g4
      go_wp2
      go_roundw
      case rel => exact ⟨k + 1, by omega, by go_num, HS.out.step HG.out ⟨HY.out, by rw [HC1.out]; exact H7.out, fun p h _ => by have := K0.out; omega⟩, HC3.out⟩
      case measure => simp [intOf]; omega
    obtain ⟨j, rfl⟩ : ∃ j, k = j + 1 := ⟨k - 1, by omega⟩
    clear hk0
    have hwj : IntKind.i64.wrap (((j + 1 : Nat) : Int) - 1) = (j : Int) := by rw [show ((j + 1 : Nat) : Int) - 1 = (j : Int) by omega]; exact IntWalk.i64_in _ (by omega)
    have hgj := List.getElem?_eq_getElem (show j < x.fRatios.length by omega)
    obtain ⟨b2, off2, cs2, hA2, hb2, hcs2, hcell2⟩ := HX4.out j x.fRatios[j] hgj
    obtain ⟨rfl, rfl⟩ : b0 = b2 ∧ of0 = off2 := by injection hA2 with hA2; injection hA2 with e1 e2; exact ⟨e1, e2⟩
    clear hA2
    generalize hzz : x.fRatios[j] = v at *; clear hzz
    have HV := hide ((HS.out _ _ (by omega) hgj).1); have HGJ := hide hgj; clear hgj
    obtain rfl := GFrac.rd_open (show T.rds _ _ _ by simpa only [GFrac.t, T.rd] using hcs2)
    have e0 := (HB.out.cell hb2).trans (hcell2 0 (.int .i64 v.fNum) rfl)
    have e1 := (HB.out.cell hb2).trans (hcell2 1 (.int .i64 v.fDen) rfl)
    rw [show of0 + (j * 2 + 0) = of0 + j * 2 by omega] at e0
    rw [show of0 + (j * 2 + 1) = of0 + j * 2 + 1 by omega] at e1
    clear hcs2 hcell2
    have i0 : (j : Int) < (x.fRatios.length : Int) := by omega
    obtain ⟨c2, hc2⟩ : ∃ cc, cmpFr v y = cc := ⟨_, rfl⟩
    have C2 := hide (fun W => (by have := c_l02Compare v y W HV.out HY.out; rw [hc2] at this; exact this : Calls Tryz.prog 139 #[.agg #[.int .i64 v.fNum, .int .i64 v.fDen], .agg #[.int .i64 y.fNum, .int .i64 y.fDen]] W fun e w' => e = .returned (.int .i64 c2) ∧ Below W.heap.size W w'))
    have HC2_ := hide hc2; clear hc2
    by_cases h8 : c2 < 0
    rotate_left
    ·
      have k8 : decide ((0 : Int) ≤ c2) = true := decide_eq_true (by omega)
      have N_ := hide h8; clear h8
      go_wp2
      have g0 := bel_cell p2
      have g1 := bel_cell p3
      have g2 := bel_cell p4
      have g3 := bel_cell d0
      have g4 := bel_cell d1
      have g5 := bel_cell e0
      have g6 := bel_cell e1
      clear p2 p3 p4 d0 d1 e0 e1 lb
      refine wp_region_bel (by kernel_rfl) (by kernel_rfl) ?_
      repeat (first | go_big_quiet_skip | (go_big_quiet_want; go_big_quiet_op; first | go_big_quiet_on | (apply Exists.intro; refine ⟨fun _ => ?_, ?_⟩; (· (first | (go_at_call 138; exact Calls.quiet_bel ((c_l02Ok y _ _ GFrac.rd_mk).mono (fun e w' h => by (first | rw [q6] at h | skip); exact h))) | (go_at_call_of 139 (Value.agg #[.int .i64 v.fNum, .int .i64 v.fDen]); exact Calls.quiet_bel (C2.out _)) | (go_at_call_of 139 (Value.agg #[.int .i64 x.fOctave.fNum, .int .i64 x.fOctave.fDen]); exact Calls.quiet_bel (C1.out _)))); go_big_quiet_on)))
      refine wpQuiet_nil ?_
      rintro wz ⟨uu, rfl⟩
      have hb9 := bel_below wr uu
      generalize bel wr uu = wz at *
      have HC2 := hide (bthen HB.out HB.out.size hb9); have HC3 := hide (bthen HW.out HW.out.size hb9); clear hb9 g0 g1 g2 g3 g4 g5 g6
      go_wp2
      go_ret
      exact ⟨ret_bool (tf_no (fun h => by have q := ((HTI.out.1 h).2.2.2.2.2.2 (j + 1) y HG.out).2 v (by omega) HGJ.out; rw [HC2_.out] at q; have r := N_.out; omega)).symm, HC2.out⟩
    have k8 : decide ((0 : Int) ≤ c2) = false := decide_eq_false (by omega)
    have H8 := hide h8; clear h8
    go_wp2
    have g0 := bel_cell p2
    have g1 := bel_cell p3
    have g2 := bel_cell p4
    have g3 := bel_cell d0
    have g4 := bel_cell d1
    have g5 := bel_cell e0
    have g6 := bel_cell e1
    clear p2 p3 p4 d0 d1 e0 e1 lb
    refine wp_region_bel (by kernel_rfl) (by kernel_rfl) ?_
    repeat (first | go_big_quiet_skip | (go_big_quiet_want; go_big_quiet_op; first | go_big_quiet_on | (apply Exists.intro; refine ⟨fun _ => ?_, ?_⟩; (· (first | (go_at_call 138; exact Calls.quiet_bel ((c_l02Ok y _ _ GFrac.rd_mk).mono (fun e w' h => by (first | rw [q6] at h | skip); exact h))) | (go_at_call_of 139 (Value.agg #[.int .i64 v.fNum, .int .i64 v.fDen]); exact Calls.quiet_bel (C2.out _)) | (go_at_call_of 139 (Value.agg #[.int .i64 x.fOctave.fNum, .int .i64 x.fOctave.fDen]); exact Calls.quiet_bel (C1.out _)))); go_big_quiet_on)))
    refine wpQuiet_nil ?_
    rintro wz ⟨uu, rfl⟩
    have hb9 := bel_below wr uu
    generalize bel wr uu = wz at *
    have HC2 := hide (bthen HB.out HB.out.size hb9); have HC3 := hide (bthen HW.out HW.out.size hb9); clear hb9 g0 g1 g2 g3 g4 g5 g6
    go_wp2
    go_roundw
    case rel => exact ⟨j + 2, by omega, by go_num, HS.out.step HG.out ⟨HY.out, by rw [HC1.out]; exact H7.out, fun p _ hp => by rw [Nat.add_sub_cancel, HGJ.out] at hp; injection hp with hp; rw [← hp, HC2_.out]; exact H8.out⟩, HC3.out⟩
    case measure => simp [intOf]; omega
end Go.Proofs.YteiflbhcehajkaaGreatDoor
