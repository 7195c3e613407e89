/- Contracts: what a valid desk is, both sides. The words of the translation's head, without running through its whole list of roots; and the closed facts of a row out of them. -/
import Derived.Test.YtajoaflfjilhmaaGreatQAsExactValidDesk
import Derived.Test.YtajoaflfjilhmaaGreatQAvExactValidDesk
import Derived.Test.YtajoaflfjilhmaaGreatQAxExactValidDesk
import Derived.Test.YtajoaflfjilhmaaGreatQAyExactValidDesk
import Derived.Test.YtajoaflfjilhmaaGreatQAzExactValidDesk
import Derived.Test.YtajoaflfjilhmaaGreatQBiExactValidDesk
import Derived.Test.YtajoaflfjilhmaaGreatQBjExactValidDesk
import Derived.Test.YtajoaflfjilhmaaGreatRows
import Derived.ProofKit
set_option linter.unusedVariables false
set_option linter.unusedSimpArgs false
section
namespace Go.Proofs.YtajoaflfjilhmaaGreat
open Go.RowKit
theorem DeskOk.iff {d : GDesk} : DeskOk d ↔ ScoreOk d.fScore ∧ TemposOk d.fTempos.fTempos ∧ TuningOk d.fTuning ∧ sigB d.fSignal = true ∧ SessionOk d.fSession :=
  ⟨fun h => ⟨h.1, h.2, h.3, h.4, h.5⟩, fun ⟨a, b, c, d, e⟩ => ⟨a, b, c, d, e⟩⟩
set_option maxHeartbeats 2000000 in
set_option maxRecDepth 20000 in
theorem c_isDesk (x : GDesk) (cs : List Value) (w : World) (hs : x.small) (h : T.rds w x.fs cs) : Calls Tryz.prog 73 #[.agg cs.toArray] w fun e w' => e = .returned (.bool (tf (DeskOk x))) ∧ Below w.heap.size w w' := by
  obtain ⟨v0, v1, v6, v7, v9, v10, v11, v12, v13, rfl, h0, h1, h6, h7, h9, h10, h11, h12, h13⟩ := GDesk.rd_open h
  clear h
  have R0 := hide h0; obtain ⟨va0, vc0, rfl, vl0, vm0, vx0⟩ := T.rd_openG h0
  have HX0 := hide vx0; clear vx0 h0
  have R1 := hide h1; obtain ⟨va1, vc1, rfl, vl1, vm1, vx1⟩ := T.rd_openG h1
  have HX1 := hide vx1; clear vx1 h1
  have R6 := hide h6; obtain ⟨va6, vc6, rfl, vl6, vm6, vx6⟩ := T.rd_openG h6
  have HX6 := hide vx6; clear vx6 h6
  have h7i := T.rd_ints.1 h7; obtain ⟨va7, vc7, rfl, vl7, vm7, vx7⟩ := h7i.open_
  have R7 := hide h7i; have HX7 := hide vx7; clear vx7 h7 h7i
  have R9 := hide h9; obtain ⟨va9, vc9, rfl, vl9, vm9, vx9⟩ := T.rd_openG h9
  have HX9 := hide vx9; clear vx9 h9
  have R10 := hide h10; obtain ⟨va10, vc10, rfl, vl10, vm10, vx10⟩ := T.rd_openG h10
  have HX10 := hide vx10; clear vx10 h10
  have h11i := T.rd_ints.1 h11; obtain ⟨va11, vc11, rfl, vl11, vm11, vx11⟩ := h11i.open_
  have R11 := hide h11i; have HX11 := hide vx11; clear vx11 h11 h11i
  have R12 := hide h12; obtain ⟨va12, vc12, rfl, vl12, vm12, vx12⟩ := T.rd_openG h12
  have HX12 := hide vx12; clear vx12 h12
  have R13 := hide h13; obtain ⟨va13, vc13, rfl, vl13, vm13, vx13⟩ := T.rd_openG h13
  have HX13 := hide vx13; clear vx13 h13
  have HB0 := hide (show Below w.heap.size w (w.alloc (.cells #[(.slice va0 x.fScore.fNotes.length vc0), (.slice va1 x.fTempos.fTempos.length vc1), .int .i64 x.fTuning.fBase.fNum, .int .i64 x.fTuning.fBase.fDen, .int .i64 x.fTuning.fOctave.fNum, .int .i64 x.fTuning.fOctave.fDen, (.slice va6 x.fTuning.fRatios.length vc6), (.slice va7 x.fSignal.length vc7), .int .i64 x.fSession.fLength, (.slice va9 x.fSession.fSources.length vc9), (.slice va10 x.fSession.fTracks.length vc10), (.slice va11 x.fSession.fFeeds.length vc11), (.slice va12 x.fSession.fEffects.length vc12), (.slice va13 x.fSession.fMixer.fStrips.length vc13)] 89)) from (Below.refl _ _).alloc (Nat.le_refl _) _)
  have HK0 := hide (Bk.born w 89 #[(.slice va0 x.fScore.fNotes.length vc0), (.slice va1 x.fTempos.fTempos.length vc1), .int .i64 x.fTuning.fBase.fNum, .int .i64 x.fTuning.fBase.fDen, .int .i64 x.fTuning.fOctave.fNum, .int .i64 x.fTuning.fOctave.fDen, (.slice va6 x.fTuning.fRatios.length vc6), (.slice va7 x.fSignal.length vc7), .int .i64 x.fSession.fLength, (.slice va9 x.fSession.fSources.length vc9), (.slice va10 x.fSession.fTracks.length vc10), (.slice va11 x.fSession.fFeeds.length vc11), (.slice va12 x.fSession.fEffects.length vc12), (.slice va13 x.fSession.fMixer.fStrips.length vc13)])
  have HDI := hide (@DeskOk.iff x); have HSM := hide hs; clear hs
  by_cases h0 : ScoreOk x.fScore
  rotate_left
  ·
    have q0 := tf_no h0; have N_ := hide h0; clear h0
    go_enter Tryz.func73, Tryz.ntmps73
    go_wp2_with (first | (go_at_call 143; refine (c_isScore x.fScore _ _ (GScore.rd_mk (T.rd_below R0.out HB0.out))).mono ?_; rintro e w1 ⟨rfl, hb⟩; rw [q0]; have HB1 := hide (bthen HB0.out HB0.out.size hb); have HK1 := hide (HK0.out.below hb HK0.out.lt); clear hb; have ka := HK1.out.cell; have la := HK1.out.lt))
    go_ret
    exact ⟨ret_bool (tf_no (fun h => N_.out (HDI.out.1 h).1)).symm, HB1.out⟩
  have q0 := tf_yes h0; have H0 := hide h0; clear h0
  by_cases h1 : TemposOk x.fTempos.fTempos
  rotate_left
  ·
    have q1 := tf_no h1; have N_ := hide h1; clear h1
    go_enter Tryz.func73, Tryz.ntmps73
    go_wp2_with (first | (go_at_call 143; refine (c_isScore x.fScore _ _ (GScore.rd_mk (T.rd_below R0.out HB0.out))).mono ?_; rintro e w1 ⟨rfl, hb⟩; rw [q0]; have HB1 := hide (bthen HB0.out HB0.out.size hb); have HK1 := hide (HK0.out.below hb HK0.out.lt); clear hb; have ka := HK1.out.cell; have la := HK1.out.lt) | (go_at_call 144; refine (c_isTempos x.fTempos _ _ HSM.out.2.1 (GTempoMap.rd_mk (T.rd_below R1.out HB1.out))).mono ?_; rintro e w2 ⟨rfl, hb⟩; rw [q1]; have HB2 := hide (bthen HB1.out HB1.out.size hb); have HK2 := hide (HK1.out.below hb HK1.out.lt); clear hb; clear ka la; have ka := HK2.out.cell; have la := HK2.out.lt))
    go_ret
    exact ⟨ret_bool (tf_no (fun h => N_.out (HDI.out.1 h).2.1)).symm, HB2.out⟩
  have q1 := tf_yes h1; have H1 := hide h1; clear h1
  by_cases h2 : TuningOk x.fTuning
  rotate_left
  ·
    have q2 := tf_no h2; have N_ := hide h2; clear h2
    go_enter Tryz.func73, Tryz.ntmps73
    go_wp2_with (first | (go_at_call 143; refine (c_isScore x.fScore _ _ (GScore.rd_mk (T.rd_below R0.out HB0.out))).mono ?_; rintro e w1 ⟨rfl, hb⟩; rw [q0]; have HB1 := hide (bthen HB0.out HB0.out.size hb); have HK1 := hide (HK0.out.below hb HK0.out.lt); clear hb; have ka := HK1.out.cell; have la := HK1.out.lt) | (go_at_call 144; refine (c_isTempos x.fTempos _ _ HSM.out.2.1 (GTempoMap.rd_mk (T.rd_below R1.out HB1.out))).mono ?_; rintro e w2 ⟨rfl, hb⟩; rw [q1]; have HB2 := hide (bthen HB1.out HB1.out.size hb); have HK2 := hide (HK1.out.below hb HK1.out.lt); clear hb; clear ka la; have ka := HK2.out.cell; have la := HK2.out.lt) | (go_at_call 145; refine (c_isTuning x.fTuning _ _ (GTuning.rd_mk (T.rd_below R6.out HB2.out))).mono ?_; rintro e w3 ⟨rfl, hb⟩; rw [q2]; have HB3 := hide (bthen HB2.out HB2.out.size hb); have HK3 := hide (HK2.out.below hb HK2.out.lt); clear hb; clear ka la; have ka := HK3.out.cell; have la := HK3.out.lt))
    go_ret
    exact ⟨ret_bool (tf_no (fun h => N_.out (HDI.out.1 h).2.2.1)).symm, HB3.out⟩
  have q2 := tf_yes h2; have H2 := hide h2; clear h2
  by_cases h3 : sigB x.fSignal = true
  rotate_left
  ·
    have q3 : sigB x.fSignal = false := (by simpa using h3); have N_ := hide h3; clear h3
    go_enter Tryz.func73, Tryz.ntmps73
    go_wp2_with (first | (go_at_call 143; refine (c_isScore x.fScore _ _ (GScore.rd_mk (T.rd_below R0.out HB0.out))).mono ?_; rintro e w1 ⟨rfl, hb⟩; rw [q0]; have HB1 := hide (bthen HB0.out HB0.out.size hb); have HK1 := hide (HK0.out.below hb HK0.out.lt); clear hb; have ka := HK1.out.cell; have la := HK1.out.lt) | (go_at_call 144; refine (c_isTempos x.fTempos _ _ HSM.out.2.1 (GTempoMap.rd_mk (T.rd_below R1.out HB1.out))).mono ?_; rintro e w2 ⟨rfl, hb⟩; rw [q1]; have HB2 := hide (bthen HB1.out HB1.out.size hb); have HK2 := hide (HK1.out.below hb HK1.out.lt); clear hb; clear ka la; have ka := HK2.out.cell; have la := HK2.out.lt) | (go_at_call 145; refine (c_isTuning x.fTuning _ _ (GTuning.rd_mk (T.rd_below R6.out HB2.out))).mono ?_; rintro e w3 ⟨rfl, hb⟩; rw [q2]; have HB3 := hide (bthen HB2.out HB2.out.size hb); have HK3 := hide (HK2.out.below hb HK2.out.lt); clear hb; clear ka la; have ka := HK3.out.cell; have la := HK3.out.lt) | (go_at_call 146; refine (c_isSignal _ x.fSignal _ (Rd.below R7.out HB3.out)).mono ?_; rintro e w' ⟨rfl, rfl⟩))
    go_ret
    exact ⟨ret_bool (tf_no (fun h => N_.out (HDI.out.1 h).2.2.2.1)).symm, HB3.out⟩
  have q3 := h3; have H3 := hide h3; clear h3
  by_cases h4 : SessionOk x.fSession
  rotate_left
  ·
    have q4 := tf_no h4; have N_ := hide h4; clear h4
    go_enter Tryz.func73, Tryz.ntmps73
    go_wp2_with (first | (go_at_call 143; refine (c_isScore x.fScore _ _ (GScore.rd_mk (T.rd_below R0.out HB0.out))).mono ?_; rintro e w1 ⟨rfl, hb⟩; rw [q0]; have HB1 := hide (bthen HB0.out HB0.out.size hb); have HK1 := hide (HK0.out.below hb HK0.out.lt); clear hb; have ka := HK1.out.cell; have la := HK1.out.lt) | (go_at_call 144; refine (c_isTempos x.fTempos _ _ HSM.out.2.1 (GTempoMap.rd_mk (T.rd_below R1.out HB1.out))).mono ?_; rintro e w2 ⟨rfl, hb⟩; rw [q1]; have HB2 := hide (bthen HB1.out HB1.out.size hb); have HK2 := hide (HK1.out.below hb HK1.out.lt); clear hb; clear ka la; have ka := HK2.out.cell; have la := HK2.out.lt) | (go_at_call 145; refine (c_isTuning x.fTuning _ _ (GTuning.rd_mk (T.rd_below R6.out HB2.out))).mono ?_; rintro e w3 ⟨rfl, hb⟩; rw [q2]; have HB3 := hide (bthen HB2.out HB2.out.size hb); have HK3 := hide (HK2.out.below hb HK2.out.lt); clear hb; clear ka la; have ka := HK3.out.cell; have la := HK3.out.lt) | (go_at_call 146; refine (c_isSignal _ x.fSignal _ (Rd.below R7.out HB3.out)).mono ?_; rintro e w' ⟨rfl, rfl⟩) | (go_at_call 39; refine (c_isSession x.fSession _ _ HSM.out.2.2.2.2 (GSession.rd_mk (T.rd_below R9.out HB3.out) (T.rd_below R10.out HB3.out) (T.rd_ints.2 (Rd.below R11.out HB3.out)) (T.rd_below R12.out HB3.out) (T.rd_below R13.out HB3.out))).mono ?_; rintro e w4 ⟨rfl, hb⟩; rw [q4]; have HB4 := hide (bthen HB3.out HB3.out.size hb); have HK4 := hide (HK3.out.below hb HK3.out.lt); clear hb; clear ka la; have ka := HK4.out.cell; have la := HK4.out.lt))
    go_ret
    exact ⟨ret_bool (tf_no (fun h => N_.out (HDI.out.1 h).2.2.2.2)).symm, HB4.out⟩
  have q4 := tf_yes h4; have H4 := hide h4; clear h4
  go_enter Tryz.func73, Tryz.ntmps73
  go_wp2_with (first | (go_at_call 143; refine (c_isScore x.fScore _ _ (GScore.rd_mk (T.rd_below R0.out HB0.out))).mono ?_; rintro e w1 ⟨rfl, hb⟩; rw [q0]; have HB1 := hide (bthen HB0.out HB0.out.size hb); have HK1 := hide (HK0.out.below hb HK0.out.lt); clear hb; have ka := HK1.out.cell; have la := HK1.out.lt) | (go_at_call 144; refine (c_isTempos x.fTempos _ _ HSM.out.2.1 (GTempoMap.rd_mk (T.rd_below R1.out HB1.out))).mono ?_; rintro e w2 ⟨rfl, hb⟩; rw [q1]; have HB2 := hide (bthen HB1.out HB1.out.size hb); have HK2 := hide (HK1.out.below hb HK1.out.lt); clear hb; clear ka la; have ka := HK2.out.cell; have la := HK2.out.lt) | (go_at_call 145; refine (c_isTuning x.fTuning _ _ (GTuning.rd_mk (T.rd_below R6.out HB2.out))).mono ?_; rintro e w3 ⟨rfl, hb⟩; rw [q2]; have HB3 := hide (bthen HB2.out HB2.out.size hb); have HK3 := hide (HK2.out.below hb HK2.out.lt); clear hb; clear ka la; have ka := HK3.out.cell; have la := HK3.out.lt) | (go_at_call 146; refine (c_isSignal _ x.fSignal _ (Rd.below R7.out HB3.out)).mono ?_; rintro e w' ⟨rfl, rfl⟩) | (go_at_call 39; refine (c_isSession x.fSession _ _ HSM.out.2.2.2.2 (GSession.rd_mk (T.rd_below R9.out HB3.out) (T.rd_below R10.out HB3.out) (T.rd_ints.2 (Rd.below R11.out HB3.out)) (T.rd_below R12.out HB3.out) (T.rd_below R13.out HB3.out))).mono ?_; rintro e w4 ⟨rfl, hb⟩; rw [q4]; have HB4 := hide (bthen HB3.out HB3.out.size hb); have HK4 := hide (HK3.out.below hb HK3.out.lt); clear hb; clear ka la; have ka := HK4.out.cell; have la := HK4.out.lt))
  go_ret
  exact ⟨ret_bool (tf_yes (HDI.out.2 ⟨H0.out, H1.out, H2.out, H3.out, H4.out⟩)).symm, HB4.out⟩
set_option maxHeartbeats 2000000 in
set_option maxRecDepth 20000 in
theorem c_iValidDesk (x : GDesk) (cs : List Value) (w : World) (hs : x.small) (h : T.rds w x.fs cs) : Calls Tryz.prog 22 #[.agg cs.toArray] w fun e w' => e = .returned (.bool (tf (DeskOk x))) ∧ Below w.heap.size w w' := by
  obtain ⟨v0, v1, v6, v7, v9, v10, v11, v12, v13, rfl, h0, h1, h6, h7, h9, h10, h11, h12, h13⟩ := GDesk.rd_open h
  clear h
  have R0 := hide h0; obtain ⟨va0, vc0, rfl, vl0, vm0, vx0⟩ := T.rd_openG h0
  have HX0 := hide vx0; clear vx0 h0
  have R1 := hide h1; obtain ⟨va1, vc1, rfl, vl1, vm1, vx1⟩ := T.rd_openG h1
  have HX1 := hide vx1; clear vx1 h1
  have R6 := hide h6; obtain ⟨va6, vc6, rfl, vl6, vm6, vx6⟩ := T.rd_openG h6
  have HX6 := hide vx6; clear vx6 h6
  have h7i := T.rd_ints.1 h7; obtain ⟨va7, vc7, rfl, vl7, vm7, vx7⟩ := h7i.open_
  have R7 := hide h7i; have HX7 := hide vx7; clear vx7 h7 h7i
  have R9 := hide h9; obtain ⟨va9, vc9, rfl, vl9, vm9, vx9⟩ := T.rd_openG h9
  have HX9 := hide vx9; clear vx9 h9
  have R10 := hide h10; obtain ⟨va10, vc10, rfl, vl10, vm10, vx10⟩ := T.rd_openG h10
  have HX10 := hide vx10; clear vx10 h10
  have h11i := T.rd_ints.1 h11; obtain ⟨va11, vc11, rfl, vl11, vm11, vx11⟩ := h11i.open_
  have R11 := hide h11i; have HX11 := hide vx11; clear vx11 h11 h11i
  have R12 := hide h12; obtain ⟨va12, vc12, rfl, vl12, vm12, vx12⟩ := T.rd_openG h12
  have HX12 := hide vx12; clear vx12 h12
  have R13 := hide h13; obtain ⟨va13, vc13, rfl, vl13, vm13, vx13⟩ := T.rd_openG h13
  have HX13 := hide vx13; clear vx13 h13
  have HB0 := hide (show Below w.heap.size w (w.alloc (.cells #[(.slice va0 x.fScore.fNotes.length vc0), (.slice va1 x.fTempos.fTempos.length vc1), .int .i64 x.fTuning.fBase.fNum, .int .i64 x.fTuning.fBase.fDen, .int .i64 x.fTuning.fOctave.fNum, .int .i64 x.fTuning.fOctave.fDen, (.slice va6 x.fTuning.fRatios.length vc6), (.slice va7 x.fSignal.length vc7), .int .i64 x.fSession.fLength, (.slice va9 x.fSession.fSources.length vc9), (.slice va10 x.fSession.fTracks.length vc10), (.slice va11 x.fSession.fFeeds.length vc11), (.slice va12 x.fSession.fEffects.length vc12), (.slice va13 x.fSession.fMixer.fStrips.length vc13)] 89)) from (Below.refl _ _).alloc (Nat.le_refl _) _)
  have HK0 := hide (Bk.born w 89 #[(.slice va0 x.fScore.fNotes.length vc0), (.slice va1 x.fTempos.fTempos.length vc1), .int .i64 x.fTuning.fBase.fNum, .int .i64 x.fTuning.fBase.fDen, .int .i64 x.fTuning.fOctave.fNum, .int .i64 x.fTuning.fOctave.fDen, (.slice va6 x.fTuning.fRatios.length vc6), (.slice va7 x.fSignal.length vc7), .int .i64 x.fSession.fLength, (.slice va9 x.fSession.fSources.length vc9), (.slice va10 x.fSession.fTracks.length vc10), (.slice va11 x.fSession.fFeeds.length vc11), (.slice va12 x.fSession.fEffects.length vc12), (.slice va13 x.fSession.fMixer.fStrips.length vc13)])
  go_enter Tryz.func22, Tryz.ntmps22
  go_wp2_with fail
  refine (c_isDesk x _ _ hs (GDesk.rd_mk (T.rd_below R0.out HB0.out) (T.rd_below R1.out HB0.out) (T.rd_below R6.out HB0.out) (T.rd_ints.2 (Rd.below R7.out HB0.out)) (T.rd_below R9.out HB0.out) (T.rd_below R10.out HB0.out) (T.rd_ints.2 (Rd.below R11.out HB0.out)) (T.rd_below R12.out HB0.out) (T.rd_below R13.out HB0.out))).mono ?_; rintro e w1 ⟨rfl, hd⟩
  have H1 := hide (bthen HB0.out HB0.out.size hd); clear hd
  go_wp2
  go_ret
  exact ⟨rfl, H1.out⟩
set_option maxHeartbeats 2000000 in
set_option maxRecDepth 20000 in
theorem c_l33Ok (x : GDesk) (b o : Nat) (w : World) (hs : x.small) (h : T.at w x.fs b o) : Calls Tryz.prog 69 #[.pointer (some ⟨b, o, none⟩)] w fun e w' => e = .returned (.bool (tf (DeskOk x))) ∧ Below w.heap.size w w' := by
  have HAT := hide h
  obtain ⟨hlt0, cs, hr, hc⟩ := h
  obtain ⟨v0, v1, v6, v7, v9, v10, v11, v12, v13, rfl, h0, h1, h6, h7, h9, h10, h11, h12, h13⟩ := GDesk.rd_open hr
  clear hr
  have R0 := hide h0; obtain ⟨va0, vc0, rfl, vl0, vm0, vx0⟩ := T.rd_openG h0
  have HX0 := hide vx0; clear vx0 h0
  have R1 := hide h1; obtain ⟨va1, vc1, rfl, vl1, vm1, vx1⟩ := T.rd_openG h1
  have HX1 := hide vx1; clear vx1 h1
  have R6 := hide h6; obtain ⟨va6, vc6, rfl, vl6, vm6, vx6⟩ := T.rd_openG h6
  have HX6 := hide vx6; clear vx6 h6
  have h7i := T.rd_ints.1 h7; obtain ⟨va7, vc7, rfl, vl7, vm7, vx7⟩ := h7i.open_
  have R7 := hide h7i; have HX7 := hide vx7; clear vx7 h7 h7i
  have R9 := hide h9; obtain ⟨va9, vc9, rfl, vl9, vm9, vx9⟩ := T.rd_openG h9
  have HX9 := hide vx9; clear vx9 h9
  have R10 := hide h10; obtain ⟨va10, vc10, rfl, vl10, vm10, vx10⟩ := T.rd_openG h10
  have HX10 := hide vx10; clear vx10 h10
  have h11i := T.rd_ints.1 h11; obtain ⟨va11, vc11, rfl, vl11, vm11, vx11⟩ := h11i.open_
  have R11 := hide h11i; have HX11 := hide vx11; clear vx11 h11 h11i
  have R12 := hide h12; obtain ⟨va12, vc12, rfl, vl12, vm12, vx12⟩ := T.rd_openG h12
  have HX12 := hide vx12; clear vx12 h12
  have R13 := hide h13; obtain ⟨va13, vc13, rfl, vl13, vm13, vx13⟩ := T.rd_openG h13
  have HX13 := hide vx13; clear vx13 h13
  have HL := hide hlt0; have HCC := hide hc; have HB0 := hide (Below.refl w.heap.size w); clear hlt0 hc
  have HDI := hide (@DeskOk.iff x); have HSM := hide hs; clear hs
  have HA0 := hide (show T.at w x.fScore.fs b o from T.at_sub [] [(.slice va0 x.fScore.fNotes.length vc0)] [(.slice va1 x.fTempos.fTempos.length vc1), .int .i64 x.fTuning.fBase.fNum, .int .i64 x.fTuning.fBase.fDen, .int .i64 x.fTuning.fOctave.fNum, .int .i64 x.fTuning.fOctave.fDen, (.slice va6 x.fTuning.fRatios.length vc6), (.slice va7 x.fSignal.length vc7), .int .i64 x.fSession.fLength, (.slice va9 x.fSession.fSources.length vc9), (.slice va10 x.fSession.fTracks.length vc10), (.slice va11 x.fSession.fFeeds.length vc11), (.slice va12 x.fSession.fEffects.length vc12), (.slice va13 x.fSession.fMixer.fStrips.length vc13)] HL.out HCC.out (GScore.rd_mk R0.out))
  have HA1 := hide (show T.at w x.fTempos.fs b (o + 1) from T.at_sub [(.slice va0 x.fScore.fNotes.length vc0)] [(.slice va1 x.fTempos.fTempos.length vc1)] [.int .i64 x.fTuning.fBase.fNum, .int .i64 x.fTuning.fBase.fDen, .int .i64 x.fTuning.fOctave.fNum, .int .i64 x.fTuning.fOctave.fDen, (.slice va6 x.fTuning.fRatios.length vc6), (.slice va7 x.fSignal.length vc7), .int .i64 x.fSession.fLength, (.slice va9 x.fSession.fSources.length vc9), (.slice va10 x.fSession.fTracks.length vc10), (.slice va11 x.fSession.fFeeds.length vc11), (.slice va12 x.fSession.fEffects.length vc12), (.slice va13 x.fSession.fMixer.fStrips.length vc13)] HL.out HCC.out (GTempoMap.rd_mk R1.out))
  have HA2 := hide (show T.at w x.fTuning.fs b (o + 2) from T.at_sub [(.slice va0 x.fScore.fNotes.length vc0), (.slice va1 x.fTempos.fTempos.length vc1)] [.int .i64 x.fTuning.fBase.fNum, .int .i64 x.fTuning.fBase.fDen, .int .i64 x.fTuning.fOctave.fNum, .int .i64 x.fTuning.fOctave.fDen, (.slice va6 x.fTuning.fRatios.length vc6)] [(.slice va7 x.fSignal.length vc7), .int .i64 x.fSession.fLength, (.slice va9 x.fSession.fSources.length vc9), (.slice va10 x.fSession.fTracks.length vc10), (.slice va11 x.fSession.fFeeds.length vc11), (.slice va12 x.fSession.fEffects.length vc12), (.slice va13 x.fSession.fMixer.fStrips.length vc13)] HL.out HCC.out (GTuning.rd_mk R6.out))
  have HA4 := hide (show T.at w x.fSession.fs b (o + 8) from T.at_sub [(.slice va0 x.fScore.fNotes.length vc0), (.slice va1 x.fTempos.fTempos.length vc1), .int .i64 x.fTuning.fBase.fNum, .int .i64 x.fTuning.fBase.fDen, .int .i64 x.fTuning.fOctave.fNum, .int .i64 x.fTuning.fOctave.fDen, (.slice va6 x.fTuning.fRatios.length vc6), (.slice va7 x.fSignal.length vc7)] [.int .i64 x.fSession.fLength, (.slice va9 x.fSession.fSources.length vc9), (.slice va10 x.fSession.fTracks.length vc10), (.slice va11 x.fSession.fFeeds.length vc11), (.slice va12 x.fSession.fEffects.length vc12), (.slice va13 x.fSession.fMixer.fStrips.length vc13)] [] HL.out HCC.out (GSession.rd_mk R9.out R10.out (T.rd_ints.2 R11.out) R12.out R13.out))
  have p7 : w.cell? ⟨b, o + 7, none⟩ = some (.slice va7 x.fSignal.length vc7) := (HB0.out.cell HL.out).trans (HCC.out 7 _ rfl)
  have lb : b < w.heap.size := Nat.lt_of_lt_of_le HL.out HB0.out.size
  by_cases h0 : ScoreOk x.fScore
  rotate_left
  ·
    have q0 := tf_no h0; have N_ := hide h0; clear h0
    go_enter Tryz.func69, Tryz.ntmps69
    go_wp2_with (first | (go_at_call 135; refine (c_l18Ok x.fScore _ _ _ (T.at_below HA0.out HB0.out)).mono ?_; rintro e w1 ⟨rfl, hb⟩; rw [q0]; have HB1 := hide (bthen HB0.out HB0.out.size hb); clear hb p7 lb; have p7 : w1.cell? ⟨b, o + 7, none⟩ = some (.slice va7 x.fSignal.length vc7) := (HB1.out.cell HL.out).trans (HCC.out 7 _ rfl); have lb : b < w1.heap.size := Nat.lt_of_lt_of_le HL.out HB1.out.size))
    go_ret
    exact ⟨ret_bool (tf_no (fun h => N_.out (HDI.out.1 h).1)).symm, HB1.out⟩
  have q0 := tf_yes h0; have H0 := hide h0; clear h0
  by_cases h1 : TemposOk x.fTempos.fTempos
  rotate_left
  ·
    have q1 := tf_no h1; have N_ := hide h1; clear h1
    go_enter Tryz.func69, Tryz.ntmps69
    go_wp2_with (first | (go_at_call 135; refine (c_l18Ok x.fScore _ _ _ (T.at_below HA0.out HB0.out)).mono ?_; rintro e w1 ⟨rfl, hb⟩; rw [q0]; have HB1 := hide (bthen HB0.out HB0.out.size hb); clear hb p7 lb; have p7 : w1.cell? ⟨b, o + 7, none⟩ = some (.slice va7 x.fSignal.length vc7) := (HB1.out.cell HL.out).trans (HCC.out 7 _ rfl); have lb : b < w1.heap.size := Nat.lt_of_lt_of_le HL.out HB1.out.size) | (go_at_call 136; refine (c_l17Ok x.fTempos _ _ _ (T.at_below HA1.out HB1.out)).mono ?_; rintro e w2 ⟨rfl, hb⟩; rw [q1]; have HB2 := hide (bthen HB1.out HB1.out.size hb); clear hb p7 lb; have p7 : w2.cell? ⟨b, o + 7, none⟩ = some (.slice va7 x.fSignal.length vc7) := (HB2.out.cell HL.out).trans (HCC.out 7 _ rfl); have lb : b < w2.heap.size := Nat.lt_of_lt_of_le HL.out HB2.out.size))
    go_ret
    exact ⟨ret_bool (tf_no (fun h => N_.out (HDI.out.1 h).2.1)).symm, HB2.out⟩
  have q1 := tf_yes h1; have H1 := hide h1; clear h1
  by_cases h2 : TuningOk x.fTuning
  rotate_left
  ·
    have q2 := tf_no h2; have N_ := hide h2; clear h2
    go_enter Tryz.func69, Tryz.ntmps69
    go_wp2_with (first | (go_at_call 135; refine (c_l18Ok x.fScore _ _ _ (T.at_below HA0.out HB0.out)).mono ?_; rintro e w1 ⟨rfl, hb⟩; rw [q0]; have HB1 := hide (bthen HB0.out HB0.out.size hb); clear hb p7 lb; have p7 : w1.cell? ⟨b, o + 7, none⟩ = some (.slice va7 x.fSignal.length vc7) := (HB1.out.cell HL.out).trans (HCC.out 7 _ rfl); have lb : b < w1.heap.size := Nat.lt_of_lt_of_le HL.out HB1.out.size) | (go_at_call 136; refine (c_l17Ok x.fTempos _ _ _ (T.at_below HA1.out HB1.out)).mono ?_; rintro e w2 ⟨rfl, hb⟩; rw [q1]; have HB2 := hide (bthen HB1.out HB1.out.size hb); clear hb p7 lb; have p7 : w2.cell? ⟨b, o + 7, none⟩ = some (.slice va7 x.fSignal.length vc7) := (HB2.out.cell HL.out).trans (HCC.out 7 _ rfl); have lb : b < w2.heap.size := Nat.lt_of_lt_of_le HL.out HB2.out.size) | (go_at_call 137; refine (c_l15Ok x.fTuning _ _ _ (T.at_below HA2.out HB2.out)).mono ?_; rintro e w3 ⟨rfl, hb⟩; rw [q2]; have HB3 := hide (bthen HB2.out HB2.out.size hb); clear hb p7 lb; have p7 : w3.cell? ⟨b, o + 7, none⟩ = some (.slice va7 x.fSignal.length vc7) := (HB3.out.cell HL.out).trans (HCC.out 7 _ rfl); have lb : b < w3.heap.size := Nat.lt_of_lt_of_le HL.out HB3.out.size))
    go_ret
    exact ⟨ret_bool (tf_no (fun h => N_.out (HDI.out.1 h).2.2.1)).symm, HB3.out⟩
  have q2 := tf_yes h2; have H2 := hide h2; clear h2
  by_cases h3 : sigB x.fSignal = true
  rotate_left
  ·
    have q3 : sigB x.fSignal = false := (by simpa using h3); have N_ := hide h3; clear h3
    go_enter Tryz.func69, Tryz.ntmps69
    go_wp2_with (first | (go_at_call 135; refine (c_l18Ok x.fScore _ _ _ (T.at_below HA0.out HB0.out)).mono ?_; rintro e w1 ⟨rfl, hb⟩; rw [q0]; have HB1 := hide (bthen HB0.out HB0.out.size hb); clear hb p7 lb; have p7 : w1.cell? ⟨b, o + 7, none⟩ = some (.slice va7 x.fSignal.length vc7) := (HB1.out.cell HL.out).trans (HCC.out 7 _ rfl); have lb : b < w1.heap.size := Nat.lt_of_lt_of_le HL.out HB1.out.size) | (go_at_call 136; refine (c_l17Ok x.fTempos _ _ _ (T.at_below HA1.out HB1.out)).mono ?_; rintro e w2 ⟨rfl, hb⟩; rw [q1]; have HB2 := hide (bthen HB1.out HB1.out.size hb); clear hb p7 lb; have p7 : w2.cell? ⟨b, o + 7, none⟩ = some (.slice va7 x.fSignal.length vc7) := (HB2.out.cell HL.out).trans (HCC.out 7 _ rfl); have lb : b < w2.heap.size := Nat.lt_of_lt_of_le HL.out HB2.out.size) | (go_at_call 137; refine (c_l15Ok x.fTuning _ _ _ (T.at_below HA2.out HB2.out)).mono ?_; rintro e w3 ⟨rfl, hb⟩; rw [q2]; have HB3 := hide (bthen HB2.out HB2.out.size hb); clear hb p7 lb; have p7 : w3.cell? ⟨b, o + 7, none⟩ = some (.slice va7 x.fSignal.length vc7) := (HB3.out.cell HL.out).trans (HCC.out 7 _ rfl); have lb : b < w3.heap.size := Nat.lt_of_lt_of_le HL.out HB3.out.size) | (go_at_call 138; refine (c_l03Ok _ x.fSignal _ (Rd.below R7.out HB3.out)).mono ?_; rintro e w' ⟨rfl, rfl⟩))
    go_ret
    exact ⟨ret_bool (tf_no (fun h => N_.out (HDI.out.1 h).2.2.2.1)).symm, HB3.out⟩
  have q3 := h3; have H3 := hide h3; clear h3
  by_cases h4 : SessionOk x.fSession
  rotate_left
  ·
    have q4 := tf_no h4; have N_ := hide h4; clear h4
    go_enter Tryz.func69, Tryz.ntmps69
    go_wp2_with (first | (go_at_call 135; refine (c_l18Ok x.fScore _ _ _ (T.at_below HA0.out HB0.out)).mono ?_; rintro e w1 ⟨rfl, hb⟩; rw [q0]; have HB1 := hide (bthen HB0.out HB0.out.size hb); clear hb p7 lb; have p7 : w1.cell? ⟨b, o + 7, none⟩ = some (.slice va7 x.fSignal.length vc7) := (HB1.out.cell HL.out).trans (HCC.out 7 _ rfl); have lb : b < w1.heap.size := Nat.lt_of_lt_of_le HL.out HB1.out.size) | (go_at_call 136; refine (c_l17Ok x.fTempos _ _ _ (T.at_below HA1.out HB1.out)).mono ?_; rintro e w2 ⟨rfl, hb⟩; rw [q1]; have HB2 := hide (bthen HB1.out HB1.out.size hb); clear hb p7 lb; have p7 : w2.cell? ⟨b, o + 7, none⟩ = some (.slice va7 x.fSignal.length vc7) := (HB2.out.cell HL.out).trans (HCC.out 7 _ rfl); have lb : b < w2.heap.size := Nat.lt_of_lt_of_le HL.out HB2.out.size) | (go_at_call 137; refine (c_l15Ok x.fTuning _ _ _ (T.at_below HA2.out HB2.out)).mono ?_; rintro e w3 ⟨rfl, hb⟩; rw [q2]; have HB3 := hide (bthen HB2.out HB2.out.size hb); clear hb p7 lb; have p7 : w3.cell? ⟨b, o + 7, none⟩ = some (.slice va7 x.fSignal.length vc7) := (HB3.out.cell HL.out).trans (HCC.out 7 _ rfl); have lb : b < w3.heap.size := Nat.lt_of_lt_of_le HL.out HB3.out.size) | (go_at_call 138; refine (c_l03Ok _ x.fSignal _ (Rd.below R7.out HB3.out)).mono ?_; rintro e w' ⟨rfl, rfl⟩) | (go_at_call 95; refine (c_l27Ok x.fSession _ _ _ HSM.out.2.2.2.2 (T.at_below HA4.out HB3.out)).mono ?_; rintro e w4 ⟨rfl, hb⟩; rw [q4]; have HB4 := hide (bthen HB3.out HB3.out.size hb); clear hb p7 lb; have p7 : w4.cell? ⟨b, o + 7, none⟩ = some (.slice va7 x.fSignal.length vc7) := (HB4.out.cell HL.out).trans (HCC.out 7 _ rfl); have lb : b < w4.heap.size := Nat.lt_of_lt_of_le HL.out HB4.out.size))
    go_ret
    exact ⟨ret_bool (tf_no (fun h => N_.out (HDI.out.1 h).2.2.2.2)).symm, HB4.out⟩
  have q4 := tf_yes h4; have H4 := hide h4; clear h4
  go_enter Tryz.func69, Tryz.ntmps69
  go_wp2_with (first | (go_at_call 135; refine (c_l18Ok x.fScore _ _ _ (T.at_below HA0.out HB0.out)).mono ?_; rintro e w1 ⟨rfl, hb⟩; rw [q0]; have HB1 := hide (bthen HB0.out HB0.out.size hb); clear hb p7 lb; have p7 : w1.cell? ⟨b, o + 7, none⟩ = some (.slice va7 x.fSignal.length vc7) := (HB1.out.cell HL.out).trans (HCC.out 7 _ rfl); have lb : b < w1.heap.size := Nat.lt_of_lt_of_le HL.out HB1.out.size) | (go_at_call 136; refine (c_l17Ok x.fTempos _ _ _ (T.at_below HA1.out HB1.out)).mono ?_; rintro e w2 ⟨rfl, hb⟩; rw [q1]; have HB2 := hide (bthen HB1.out HB1.out.size hb); clear hb p7 lb; have p7 : w2.cell? ⟨b, o + 7, none⟩ = some (.slice va7 x.fSignal.length vc7) := (HB2.out.cell HL.out).trans (HCC.out 7 _ rfl); have lb : b < w2.heap.size := Nat.lt_of_lt_of_le HL.out HB2.out.size) | (go_at_call 137; refine (c_l15Ok x.fTuning _ _ _ (T.at_below HA2.out HB2.out)).mono ?_; rintro e w3 ⟨rfl, hb⟩; rw [q2]; have HB3 := hide (bthen HB2.out HB2.out.size hb); clear hb p7 lb; have p7 : w3.cell? ⟨b, o + 7, none⟩ = some (.slice va7 x.fSignal.length vc7) := (HB3.out.cell HL.out).trans (HCC.out 7 _ rfl); have lb : b < w3.heap.size := Nat.lt_of_lt_of_le HL.out HB3.out.size) | (go_at_call 138; refine (c_l03Ok _ x.fSignal _ (Rd.below R7.out HB3.out)).mono ?_; rintro e w' ⟨rfl, rfl⟩) | (go_at_call 95; refine (c_l27Ok x.fSession _ _ _ HSM.out.2.2.2.2 (T.at_below HA4.out HB3.out)).mono ?_; rintro e w4 ⟨rfl, hb⟩; rw [q4]; have HB4 := hide (bthen HB3.out HB3.out.size hb); clear hb p7 lb; have p7 : w4.cell? ⟨b, o + 7, none⟩ = some (.slice va7 x.fSignal.length vc7) := (HB4.out.cell HL.out).trans (HCC.out 7 _ rfl); have lb : b < w4.heap.size := Nat.lt_of_lt_of_le HL.out HB4.out.size))
  go_ret
  exact ⟨ret_bool (tf_yes (HDI.out.2 ⟨H0.out, H1.out, H2.out, H3.out, H4.out⟩)).symm, HB4.out⟩
set_option maxHeartbeats 2000000 in
set_option maxRecDepth 20000 in
theorem c_sValidDesk (x : GDesk) (cs : List Value) (w : World) (hs : x.small) (h : T.rds w x.fs cs) : Calls Tryz.prog 20 #[.agg cs.toArray] w fun e w' => e = .returned (.bool (tf (DeskOk x))) ∧ Below w.heap.size w w' := by
  obtain ⟨v0, v1, v6, v7, v9, v10, v11, v12, v13, rfl, h0, h1, h6, h7, h9, h10, h11, h12, h13⟩ := GDesk.rd_open h
  clear h
  have R0 := hide h0; obtain ⟨va0, vc0, rfl, vl0, vm0, vx0⟩ := T.rd_openG h0
  have HX0 := hide vx0; clear vx0 h0
  have R1 := hide h1; obtain ⟨va1, vc1, rfl, vl1, vm1, vx1⟩ := T.rd_openG h1
  have HX1 := hide vx1; clear vx1 h1
  have R6 := hide h6; obtain ⟨va6, vc6, rfl, vl6, vm6, vx6⟩ := T.rd_openG h6
  have HX6 := hide vx6; clear vx6 h6
  have h7i := T.rd_ints.1 h7; obtain ⟨va7, vc7, rfl, vl7, vm7, vx7⟩ := h7i.open_
  have R7 := hide h7i; have HX7 := hide vx7; clear vx7 h7 h7i
  have R9 := hide h9; obtain ⟨va9, vc9, rfl, vl9, vm9, vx9⟩ := T.rd_openG h9
  have HX9 := hide vx9; clear vx9 h9
  have R10 := hide h10; obtain ⟨va10, vc10, rfl, vl10, vm10, vx10⟩ := T.rd_openG h10
  have HX10 := hide vx10; clear vx10 h10
  have h11i := T.rd_ints.1 h11; obtain ⟨va11, vc11, rfl, vl11, vm11, vx11⟩ := h11i.open_
  have R11 := hide h11i; have HX11 := hide vx11; clear vx11 h11 h11i
  have R12 := hide h12; obtain ⟨va12, vc12, rfl, vl12, vm12, vx12⟩ := T.rd_openG h12
  have HX12 := hide vx12; clear vx12 h12
  have R13 := hide h13; obtain ⟨va13, vc13, rfl, vl13, vm13, vx13⟩ := T.rd_openG h13
  have HX13 := hide vx13; clear vx13 h13
  have HB0 := hide (show Below w.heap.size w (w.alloc (.cells #[(.slice va0 x.fScore.fNotes.length vc0), (.slice va1 x.fTempos.fTempos.length vc1), .int .i64 x.fTuning.fBase.fNum, .int .i64 x.fTuning.fBase.fDen, .int .i64 x.fTuning.fOctave.fNum, .int .i64 x.fTuning.fOctave.fDen, (.slice va6 x.fTuning.fRatios.length vc6), (.slice va7 x.fSignal.length vc7), .int .i64 x.fSession.fLength, (.slice va9 x.fSession.fSources.length vc9), (.slice va10 x.fSession.fTracks.length vc10), (.slice va11 x.fSession.fFeeds.length vc11), (.slice va12 x.fSession.fEffects.length vc12), (.slice va13 x.fSession.fMixer.fStrips.length vc13)] 89)) from (Below.refl _ _).alloc (Nat.le_refl _) _)
  have HK0 := hide (Bk.born w 89 #[(.slice va0 x.fScore.fNotes.length vc0), (.slice va1 x.fTempos.fTempos.length vc1), .int .i64 x.fTuning.fBase.fNum, .int .i64 x.fTuning.fBase.fDen, .int .i64 x.fTuning.fOctave.fNum, .int .i64 x.fTuning.fOctave.fDen, (.slice va6 x.fTuning.fRatios.length vc6), (.slice va7 x.fSignal.length vc7), .int .i64 x.fSession.fLength, (.slice va9 x.fSession.fSources.length vc9), (.slice va10 x.fSession.fTracks.length vc10), (.slice va11 x.fSession.fFeeds.length vc11), (.slice va12 x.fSession.fEffects.length vc12), (.slice va13 x.fSession.fMixer.fStrips.length vc13)])
  go_enter Tryz.func20, Tryz.ntmps20
  go_wp2_with fail
  refine (c_l33Ok x _ _ _ hs (T.at_bk HK0.out (GDesk.rd_mk (T.rd_below R0.out HB0.out) (T.rd_below R1.out HB0.out) (T.rd_below R6.out HB0.out) (T.rd_ints.2 (Rd.below R7.out HB0.out)) (T.rd_below R9.out HB0.out) (T.rd_below R10.out HB0.out) (T.rd_ints.2 (Rd.below R11.out HB0.out)) (T.rd_below R12.out HB0.out) (T.rd_below R13.out HB0.out)))).mono ?_; rintro e w1 ⟨rfl, hd⟩
  have H1 := hide (bthen HB0.out HB0.out.size hd); clear hd
  go_wp2
  go_ret
  exact ⟨rfl, H1.out⟩
end Go.Proofs.YtajoaflfjilhmaaGreat
end
section
namespace Go.Proofs.YtajoaflfjilhmaaGreat
open Go.ChangeShapes
theorem words_pre : ∀ (a r : List Char), (a.all fun c => c != Char.ofNat 32) = true → wordsSigns (a ++ Char.ofNat 32 :: r) = a :: wordsSigns r
  | [], r, _ => rfl
  | c :: a, r, h => by
    simp only [List.all_cons, Bool.and_eq_true, bne_iff_ne, ne_eq] at h
    have ih := words_pre a r (by simpa using h.2)
    rw [List.cons_append]
    conv => lhs; unfold wordsSigns
    split
    · rename_i e; cases e
    · rename_i e
      injection e with e1 _
      exact absurd e1 h.1
    · rename_i e
      injection e with e1 e2
      subst e1 e2
      rw [ih]
set_option maxRecDepth 100000 in
theorem head_list : ∃ l, Tryz.prog.initOrder = String.ofList l ∧ ("harness 8bd308179eb43993fa015d18f0f99d3f64ed28274cc1d7f62b5d64e7f6249b2d cut ".toList).isPrefixOf l = true := by
  refine ⟨_, rfl, ?_⟩
  kernel_rfl
theorem head_words : ∃ X, wordsSigns Tryz.prog.initOrder.toList = "harness".toList :: "8bd308179eb43993fa015d18f0f99d3f64ed28274cc1d7f62b5d64e7f6249b2d".toList :: "cut".toList :: X := by
  obtain ⟨l, hl, hp⟩ := head_list
  obtain ⟨r, hr⟩ := List.isPrefixOf_iff_prefix.1 hp
  have e : "harness 8bd308179eb43993fa015d18f0f99d3f64ed28274cc1d7f62b5d64e7f6249b2d cut ".toList = "harness".toList ++ Char.ofNat 32 :: ("8bd308179eb43993fa015d18f0f99d3f64ed28274cc1d7f62b5d64e7f6249b2d".toList ++ Char.ofNat 32 :: ("cut".toList ++ [Char.ofNat 32])) := by kernel_rfl
  refine ⟨wordsSigns r, ?_⟩
  rw [hl, String.toList_ofList, ← hr, e]
  simp only [List.append_assoc, List.cons_append, List.nil_append]
  rw [words_pre _ _ (by kernel_rfl), words_pre _ _ (by kernel_rfl), words_pre _ _ (by kernel_rfl)]
theorem behind : ∃ X, behindMainWord (wordsSigns Tryz.prog.initOrder.toList) = "cut".toList :: X := by
  obtain ⟨X, hX⟩ := head_words
  refine ⟨X, ?_⟩
  rw [hX]
  have e1 : ("harness".toList == "harness".toList || "harness".toList == "ownmain".toList) = true := by kernel_rfl
  have e2 : isSumSigns "8bd308179eb43993fa015d18f0f99d3f64ed28274cc1d7f62b5d64e7f6249b2d".toList = true := by kernel_rfl
  unfold behindMainWord
  dsimp only
  rw [e1, e2]; rfl
section
variable {P : Program} {X : List (List Char)}
theorem make_of (hX : behindMainWord (wordsSigns P.initOrder.toList) = "cut".toList :: X) : P.make = some .cut := by
  unfold Program.make
  rw [hX]; rfl
theorem lifts_of (X : List (List Char)) : stripLifts liftWords ("cut".toList :: X) = ([], "cut".toList :: X) := rfl
theorem headLifts_of (hX : behindMainWord (wordsSigns P.initOrder.toList) = "cut".toList :: X) : P.headLifts = [] := by
  unfold Program.headLifts
  rw [hX, lifts_of]; rfl
theorem liftsFinal_of (hX : behindMainWord (wordsSigns P.initOrder.toList) = "cut".toList :: X) : P.liftsFinal = false := by
  unfold Program.liftsFinal
  rw [hX, headLifts_of hX]; rfl
theorem mayEnter_of (hX : behindMainWord (wordsSigns P.initOrder.toList) = "cut".toList :: X) (h1 : P.laysLater = false) (h2 : P.bearsReflect = false) (h3 : P.doorFits [] = true) : P.mayEnter = true := by
  unfold Program.mayEnter
  rw [hX]
  dsimp only
  rw [lifts_of, h1, h2, h3]
  rfl
end
theorem make_is : Tryz.prog.make = some .cut := by
  obtain ⟨X, hX⟩ := behind
  exact make_of hX
theorem liftsFinal_is : Tryz.prog.liftsFinal = false := by
  obtain ⟨X, hX⟩ := behind
  exact liftsFinal_of hX
theorem mayEnter_is : Tryz.prog.mayEnter = true := by
  obtain ⟨X, hX⟩ := behind
  exact mayEnter_of hX (by kernel_rfl) (by kernel_rfl) (by kernel_rfl)
theorem laidOut_is : laidOutB Tryz.prog = true := by kernel_rfl
theorem own_is : ownKnob Tryz.prog.godebug = none := by kernel_rfl
end Go.Proofs.YtajoaflfjilhmaaGreat
end
