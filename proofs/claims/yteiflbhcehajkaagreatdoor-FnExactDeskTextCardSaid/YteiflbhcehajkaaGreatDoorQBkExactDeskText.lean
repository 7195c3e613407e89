/- Contracts: what a valid desk is, both sides. Contracts: lengths of Rice codes, the best parameter, the best order. The contracts of Go's library that the program calls, laid at this translation in plain words (by the kit's tools, out of its library). Contracts: bits as bytes. Contracts: numbers in decimal, by both sides. -/
import Derived.Test.YteiflbhcehajkaaGreatDoorQAsExactDeskText
import Derived.Test.YteiflbhcehajkaaGreatDoorQAvExactDeskText
import Derived.Test.YteiflbhcehajkaaGreatDoorQAxExactDeskText
import Derived.Test.YteiflbhcehajkaaGreatDoorQAyExactDeskText
import Derived.Test.YteiflbhcehajkaaGreatDoorQAzExactDeskText
import Derived.Test.YteiflbhcehajkaaGreatDoorQBiExactDeskText
import Derived.Test.YteiflbhcehajkaaGreatDoorQBjExactDeskText
import Derived.Test.YteiflbhcehajkaaGreatDoorQAiExactDeskText
import Derived.Shelf.Strings.Builder1
import Derived.Shelf.Strings.Builder2
import Derived.Shelf.Strings.OnBuilder
import Derived.Shelf.Strings.BuilderF
import Derived.Shelf.Strings.BuilderK
import Derived.Shelf.Strings.Builder2Cap
import Derived.Shelf.Strconv.Itoa0
import Derived.Shelf.Strconv.Itoa1
import Derived.Shelf.LaysM
import Derived.Shelf.Strconv.Itoa2
import Derived.Shelf.Strconv.Itoa3
import Derived.Shelf.Strconv.Itoa4
import Derived.Shelf.Strings.Search1
import Derived.Shelf.Strings.Search2
import Derived.Shelf.Strings.Search3
import Derived.Shelf.Strings.Count
import Derived.Shelf.Strings.Shaped
import Derived.Shelf.Unicode.DecodeSlow
import Derived.Shelf.Strings.BuilderCap
import Derived.Test.YteiflbhcehajkaaGreatDoorProg
import Derived.Test.YteiflbhcehajkaaGreatDoorQAaExactDeskText
import Derived.Lib.LaidTab
set_option linter.unusedVariables false
set_option linter.unusedSimpArgs false
section
namespace Go.Proofs.YteiflbhcehajkaaGreatDoor
open Go.RowKit
theorem DeskOk.iff {d : GDesk} : DeskOk d ↔ ScoreOk d.fScore ∧ TemposOk d.fTempos.fTempos ∧ TuningOk d.fTuning ∧ sigB d.fSignal = true ∧ SessionOk d.fSession :=
  ⟨fun h => ⟨h.1, h.2, h.3, h.4, h.5⟩, fun ⟨a, b, c, d, e⟩ => ⟨a, b, c, d, e⟩⟩
set_option maxHeartbeats 2000000 in
set_option maxRecDepth 20000 in
theorem c_isDesk (x : GDesk) (cs : List Value) (w : World) (hs : x.small) (h : T.rds w x.fs cs) : Calls Tryz.prog 42 #[.agg cs.toArray] w fun e w' => e = .returned (.bool (tf (DeskOk x))) ∧ Below w.heap.size w w' := by
  obtain ⟨v0, v1, v6, v7, v9, v10, v11, v12, v13, rfl, h0, h1, h6, h7, h9, h10, h11, h12, h13⟩ := GDesk.rd_open h
  clear h
  have R0 := hide h0; obtain ⟨va0, vc0, rfl, vl0, vm0, vx0⟩ := T.rd_openG h0
  have HX0 := hide vx0; clear vx0 h0
  have R1 := hide h1; obtain ⟨va1, vc1, rfl, vl1, vm1, vx1⟩ := T.rd_openG h1
  have HX1 := hide vx1; clear vx1 h1
  have R6 := hide h6; obtain ⟨va6, vc6, rfl, vl6, vm6, vx6⟩ := T.rd_openG h6
  have HX6 := hide vx6; clear vx6 h6
  have h7i := T.rd_ints.1 h7; obtain ⟨va7, vc7, rfl, vl7, vm7, vx7⟩ := h7i.open_
  have R7 := hide h7i; have HX7 := hide vx7; clear vx7 h7 h7i
  have R9 := hide h9; obtain ⟨va9, vc9, rfl, vl9, vm9, vx9⟩ := T.rd_openG h9
  have HX9 := hide vx9; clear vx9 h9
  have R10 := hide h10; obtain ⟨va10, vc10, rfl, vl10, vm10, vx10⟩ := T.rd_openG h10
  have HX10 := hide vx10; clear vx10 h10
  have h11i := T.rd_ints.1 h11; obtain ⟨va11, vc11, rfl, vl11, vm11, vx11⟩ := h11i.open_
  have R11 := hide h11i; have HX11 := hide vx11; clear vx11 h11 h11i
  have R12 := hide h12; obtain ⟨va12, vc12, rfl, vl12, vm12, vx12⟩ := T.rd_openG h12
  have HX12 := hide vx12; clear vx12 h12
  have R13 := hide h13; obtain ⟨va13, vc13, rfl, vl13, vm13, vx13⟩ := T.rd_openG h13
  have HX13 := hide vx13; clear vx13 h13
  have HB0 := hide (show Below w.heap.size w (w.alloc (.cells #[(.slice va0 x.fScore.fNotes.length vc0), (.slice va1 x.fTempos.fTempos.length vc1), .int .i64 x.fTuning.fBase.fNum, .int .i64 x.fTuning.fBase.fDen, .int .i64 x.fTuning.fOctave.fNum, .int .i64 x.fTuning.fOctave.fDen, (.slice va6 x.fTuning.fRatios.length vc6), (.slice va7 x.fSignal.length vc7), .int .i64 x.fSession.fLength, (.slice va9 x.fSession.fSources.length vc9), (.slice va10 x.fSession.fTracks.length vc10), (.slice va11 x.fSession.fFeeds.length vc11), (.slice va12 x.fSession.fEffects.length vc12), (.slice va13 x.fSession.fMixer.fStrips.length vc13)] 69)) from (Below.refl _ _).alloc (Nat.le_refl _) _)
  have HK0 := hide (Bk.born w 69 #[(.slice va0 x.fScore.fNotes.length vc0), (.slice va1 x.fTempos.fTempos.length vc1), .int .i64 x.fTuning.fBase.fNum, .int .i64 x.fTuning.fBase.fDen, .int .i64 x.fTuning.fOctave.fNum, .int .i64 x.fTuning.fOctave.fDen, (.slice va6 x.fTuning.fRatios.length vc6), (.slice va7 x.fSignal.length vc7), .int .i64 x.fSession.fLength, (.slice va9 x.fSession.fSources.length vc9), (.slice va10 x.fSession.fTracks.length vc10), (.slice va11 x.fSession.fFeeds.length vc11), (.slice va12 x.fSession.fEffects.length vc12), (.slice va13 x.fSession.fMixer.fStrips.length vc13)])
  have HDI := hide (@DeskOk.iff x); have HSM := hide hs; clear hs
  by_cases h0 : ScoreOk x.fScore
  rotate_left
  ·
    have q0 := tf_no h0; have N_ := hide h0; clear h0
    go_enter Tryz.func42, Tryz.ntmps42
    go_wp2_with (first | (go_at_call 97; refine (c_isScore x.fScore _ _ (GScore.rd_mk (T.rd_below R0.out HB0.out))).mono ?_; rintro e w1 ⟨rfl, hb⟩; rw [q0]; have HB1 := hide (bthen HB0.out HB0.out.size hb); have HK1 := hide (HK0.out.below hb HK0.out.lt); clear hb; have ka := HK1.out.cell; have la := HK1.out.lt))
    go_ret
    exact ⟨ret_bool (tf_no (fun h => N_.out (HDI.out.1 h).1)).symm, HB1.out⟩
  have q0 := tf_yes h0; have H0 := hide h0; clear h0
  by_cases h1 : TemposOk x.fTempos.fTempos
  rotate_left
  ·
    have q1 := tf_no h1; have N_ := hide h1; clear h1
    go_enter Tryz.func42, Tryz.ntmps42
    go_wp2_with (first | (go_at_call 97; refine (c_isScore x.fScore _ _ (GScore.rd_mk (T.rd_below R0.out HB0.out))).mono ?_; rintro e w1 ⟨rfl, hb⟩; rw [q0]; have HB1 := hide (bthen HB0.out HB0.out.size hb); have HK1 := hide (HK0.out.below hb HK0.out.lt); clear hb; have ka := HK1.out.cell; have la := HK1.out.lt) | (go_at_call 98; refine (c_isTempos x.fTempos _ _ HSM.out.2.1 (GTempoMap.rd_mk (T.rd_below R1.out HB1.out))).mono ?_; rintro e w2 ⟨rfl, hb⟩; rw [q1]; have HB2 := hide (bthen HB1.out HB1.out.size hb); have HK2 := hide (HK1.out.below hb HK1.out.lt); clear hb; clear ka la; have ka := HK2.out.cell; have la := HK2.out.lt))
    go_ret
    exact ⟨ret_bool (tf_no (fun h => N_.out (HDI.out.1 h).2.1)).symm, HB2.out⟩
  have q1 := tf_yes h1; have H1 := hide h1; clear h1
  by_cases h2 : TuningOk x.fTuning
  rotate_left
  ·
    have q2 := tf_no h2; have N_ := hide h2; clear h2
    go_enter Tryz.func42, Tryz.ntmps42
    go_wp2_with (first | (go_at_call 97; refine (c_isScore x.fScore _ _ (GScore.rd_mk (T.rd_below R0.out HB0.out))).mono ?_; rintro e w1 ⟨rfl, hb⟩; rw [q0]; have HB1 := hide (bthen HB0.out HB0.out.size hb); have HK1 := hide (HK0.out.below hb HK0.out.lt); clear hb; have ka := HK1.out.cell; have la := HK1.out.lt) | (go_at_call 98; refine (c_isTempos x.fTempos _ _ HSM.out.2.1 (GTempoMap.rd_mk (T.rd_below R1.out HB1.out))).mono ?_; rintro e w2 ⟨rfl, hb⟩; rw [q1]; have HB2 := hide (bthen HB1.out HB1.out.size hb); have HK2 := hide (HK1.out.below hb HK1.out.lt); clear hb; clear ka la; have ka := HK2.out.cell; have la := HK2.out.lt) | (go_at_call 99; refine (c_isTuning x.fTuning _ _ (GTuning.rd_mk (T.rd_below R6.out HB2.out))).mono ?_; rintro e w3 ⟨rfl, hb⟩; rw [q2]; have HB3 := hide (bthen HB2.out HB2.out.size hb); have HK3 := hide (HK2.out.below hb HK2.out.lt); clear hb; clear ka la; have ka := HK3.out.cell; have la := HK3.out.lt))
    go_ret
    exact ⟨ret_bool (tf_no (fun h => N_.out (HDI.out.1 h).2.2.1)).symm, HB3.out⟩
  have q2 := tf_yes h2; have H2 := hide h2; clear h2
  by_cases h3 : sigB x.fSignal = true
  rotate_left
  ·
    have q3 : sigB x.fSignal = false := (by simpa using h3); have N_ := hide h3; clear h3
    go_enter Tryz.func42, Tryz.ntmps42
    go_wp2_with (first | (go_at_call 97; refine (c_isScore x.fScore _ _ (GScore.rd_mk (T.rd_below R0.out HB0.out))).mono ?_; rintro e w1 ⟨rfl, hb⟩; rw [q0]; have HB1 := hide (bthen HB0.out HB0.out.size hb); have HK1 := hide (HK0.out.below hb HK0.out.lt); clear hb; have ka := HK1.out.cell; have la := HK1.out.lt) | (go_at_call 98; refine (c_isTempos x.fTempos _ _ HSM.out.2.1 (GTempoMap.rd_mk (T.rd_below R1.out HB1.out))).mono ?_; rintro e w2 ⟨rfl, hb⟩; rw [q1]; have HB2 := hide (bthen HB1.out HB1.out.size hb); have HK2 := hide (HK1.out.below hb HK1.out.lt); clear hb; clear ka la; have ka := HK2.out.cell; have la := HK2.out.lt) | (go_at_call 99; refine (c_isTuning x.fTuning _ _ (GTuning.rd_mk (T.rd_below R6.out HB2.out))).mono ?_; rintro e w3 ⟨rfl, hb⟩; rw [q2]; have HB3 := hide (bthen HB2.out HB2.out.size hb); have HK3 := hide (HK2.out.below hb HK2.out.lt); clear hb; clear ka la; have ka := HK3.out.cell; have la := HK3.out.lt) | (go_at_call 100; refine (c_isSignal _ x.fSignal _ (Rd.below R7.out HB3.out)).mono ?_; rintro e w' ⟨rfl, rfl⟩))
    go_ret
    exact ⟨ret_bool (tf_no (fun h => N_.out (HDI.out.1 h).2.2.2.1)).symm, HB3.out⟩
  have q3 := h3; have H3 := hide h3; clear h3
  by_cases h4 : SessionOk x.fSession
  rotate_left
  ·
    have q4 := tf_no h4; have N_ := hide h4; clear h4
    go_enter Tryz.func42, Tryz.ntmps42
    go_wp2_with (first | (go_at_call 97; refine (c_isScore x.fScore _ _ (GScore.rd_mk (T.rd_below R0.out HB0.out))).mono ?_; rintro e w1 ⟨rfl, hb⟩; rw [q0]; have HB1 := hide (bthen HB0.out HB0.out.size hb); have HK1 := hide (HK0.out.below hb HK0.out.lt); clear hb; have ka := HK1.out.cell; have la := HK1.out.lt) | (go_at_call 98; refine (c_isTempos x.fTempos _ _ HSM.out.2.1 (GTempoMap.rd_mk (T.rd_below R1.out HB1.out))).mono ?_; rintro e w2 ⟨rfl, hb⟩; rw [q1]; have HB2 := hide (bthen HB1.out HB1.out.size hb); have HK2 := hide (HK1.out.below hb HK1.out.lt); clear hb; clear ka la; have ka := HK2.out.cell; have la := HK2.out.lt) | (go_at_call 99; refine (c_isTuning x.fTuning _ _ (GTuning.rd_mk (T.rd_below R6.out HB2.out))).mono ?_; rintro e w3 ⟨rfl, hb⟩; rw [q2]; have HB3 := hide (bthen HB2.out HB2.out.size hb); have HK3 := hide (HK2.out.below hb HK2.out.lt); clear hb; clear ka la; have ka := HK3.out.cell; have la := HK3.out.lt) | (go_at_call 100; refine (c_isSignal _ x.fSignal _ (Rd.below R7.out HB3.out)).mono ?_; rintro e w' ⟨rfl, rfl⟩) | (go_at_call 27; refine (c_isSession x.fSession _ _ HSM.out.2.2.2.2 (GSession.rd_mk (T.rd_below R9.out HB3.out) (T.rd_below R10.out HB3.out) (T.rd_ints.2 (Rd.below R11.out HB3.out)) (T.rd_below R12.out HB3.out) (T.rd_below R13.out HB3.out))).mono ?_; rintro e w4 ⟨rfl, hb⟩; rw [q4]; have HB4 := hide (bthen HB3.out HB3.out.size hb); have HK4 := hide (HK3.out.below hb HK3.out.lt); clear hb; clear ka la; have ka := HK4.out.cell; have la := HK4.out.lt))
    go_ret
    exact ⟨ret_bool (tf_no (fun h => N_.out (HDI.out.1 h).2.2.2.2)).symm, HB4.out⟩
  have q4 := tf_yes h4; have H4 := hide h4; clear h4
  go_enter Tryz.func42, Tryz.ntmps42
  go_wp2_with (first | (go_at_call 97; refine (c_isScore x.fScore _ _ (GScore.rd_mk (T.rd_below R0.out HB0.out))).mono ?_; rintro e w1 ⟨rfl, hb⟩; rw [q0]; have HB1 := hide (bthen HB0.out HB0.out.size hb); have HK1 := hide (HK0.out.below hb HK0.out.lt); clear hb; have ka := HK1.out.cell; have la := HK1.out.lt) | (go_at_call 98; refine (c_isTempos x.fTempos _ _ HSM.out.2.1 (GTempoMap.rd_mk (T.rd_below R1.out HB1.out))).mono ?_; rintro e w2 ⟨rfl, hb⟩; rw [q1]; have HB2 := hide (bthen HB1.out HB1.out.size hb); have HK2 := hide (HK1.out.below hb HK1.out.lt); clear hb; clear ka la; have ka := HK2.out.cell; have la := HK2.out.lt) | (go_at_call 99; refine (c_isTuning x.fTuning _ _ (GTuning.rd_mk (T.rd_below R6.out HB2.out))).mono ?_; rintro e w3 ⟨rfl, hb⟩; rw [q2]; have HB3 := hide (bthen HB2.out HB2.out.size hb); have HK3 := hide (HK2.out.below hb HK2.out.lt); clear hb; clear ka la; have ka := HK3.out.cell; have la := HK3.out.lt) | (go_at_call 100; refine (c_isSignal _ x.fSignal _ (Rd.below R7.out HB3.out)).mono ?_; rintro e w' ⟨rfl, rfl⟩) | (go_at_call 27; refine (c_isSession x.fSession _ _ HSM.out.2.2.2.2 (GSession.rd_mk (T.rd_below R9.out HB3.out) (T.rd_below R10.out HB3.out) (T.rd_ints.2 (Rd.below R11.out HB3.out)) (T.rd_below R12.out HB3.out) (T.rd_below R13.out HB3.out))).mono ?_; rintro e w4 ⟨rfl, hb⟩; rw [q4]; have HB4 := hide (bthen HB3.out HB3.out.size hb); have HK4 := hide (HK3.out.below hb HK3.out.lt); clear hb; clear ka la; have ka := HK4.out.cell; have la := HK4.out.lt))
  go_ret
  exact ⟨ret_bool (tf_yes (HDI.out.2 ⟨H0.out, H1.out, H2.out, H3.out, H4.out⟩)).symm, HB4.out⟩
set_option maxHeartbeats 2000000 in
set_option maxRecDepth 20000 in
theorem c_l33Ok (x : GDesk) (b o : Nat) (w : World) (hs : x.small) (h : T.at w x.fs b o) : Calls Tryz.prog 37 #[.pointer (some ⟨b, o, none⟩)] w fun e w' => e = .returned (.bool (tf (DeskOk x))) ∧ Below w.heap.size w w' := by
  have HAT := hide h
  obtain ⟨hlt0, cs, hr, hc⟩ := h
  obtain ⟨v0, v1, v6, v7, v9, v10, v11, v12, v13, rfl, h0, h1, h6, h7, h9, h10, h11, h12, h13⟩ := GDesk.rd_open hr
  clear hr
  have R0 := hide h0; obtain ⟨va0, vc0, rfl, vl0, vm0, vx0⟩ := T.rd_openG h0
  have HX0 := hide vx0; clear vx0 h0
  have R1 := hide h1; obtain ⟨va1, vc1, rfl, vl1, vm1, vx1⟩ := T.rd_openG h1
  have HX1 := hide vx1; clear vx1 h1
  have R6 := hide h6; obtain ⟨va6, vc6, rfl, vl6, vm6, vx6⟩ := T.rd_openG h6
  have HX6 := hide vx6; clear vx6 h6
  have h7i := T.rd_ints.1 h7; obtain ⟨va7, vc7, rfl, vl7, vm7, vx7⟩ := h7i.open_
  have R7 := hide h7i; have HX7 := hide vx7; clear vx7 h7 h7i
  have R9 := hide h9; obtain ⟨va9, vc9, rfl, vl9, vm9, vx9⟩ := T.rd_openG h9
  have HX9 := hide vx9; clear vx9 h9
  have R10 := hide h10; obtain ⟨va10, vc10, rfl, vl10, vm10, vx10⟩ := T.rd_openG h10
  have HX10 := hide vx10; clear vx10 h10
  have h11i := T.rd_ints.1 h11; obtain ⟨va11, vc11, rfl, vl11, vm11, vx11⟩ := h11i.open_
  have R11 := hide h11i; have HX11 := hide vx11; clear vx11 h11 h11i
  have R12 := hide h12; obtain ⟨va12, vc12, rfl, vl12, vm12, vx12⟩ := T.rd_openG h12
  have HX12 := hide vx12; clear vx12 h12
  have R13 := hide h13; obtain ⟨va13, vc13, rfl, vl13, vm13, vx13⟩ := T.rd_openG h13
  have HX13 := hide vx13; clear vx13 h13
  have HL := hide hlt0; have HCC := hide hc; have HB0 := hide (Below.refl w.heap.size w); clear hlt0 hc
  have HDI := hide (@DeskOk.iff x); have HSM := hide hs; clear hs
  have HA0 := hide (show T.at w x.fScore.fs b o from T.at_sub [] [(.slice va0 x.fScore.fNotes.length vc0)] [(.slice va1 x.fTempos.fTempos.length vc1), .int .i64 x.fTuning.fBase.fNum, .int .i64 x.fTuning.fBase.fDen, .int .i64 x.fTuning.fOctave.fNum, .int .i64 x.fTuning.fOctave.fDen, (.slice va6 x.fTuning.fRatios.length vc6), (.slice va7 x.fSignal.length vc7), .int .i64 x.fSession.fLength, (.slice va9 x.fSession.fSources.length vc9), (.slice va10 x.fSession.fTracks.length vc10), (.slice va11 x.fSession.fFeeds.length vc11), (.slice va12 x.fSession.fEffects.length vc12), (.slice va13 x.fSession.fMixer.fStrips.length vc13)] HL.out HCC.out (GScore.rd_mk R0.out))
  have HA1 := hide (show T.at w x.fTempos.fs b (o + 1) from T.at_sub [(.slice va0 x.fScore.fNotes.length vc0)] [(.slice va1 x.fTempos.fTempos.length vc1)] [.int .i64 x.fTuning.fBase.fNum, .int .i64 x.fTuning.fBase.fDen, .int .i64 x.fTuning.fOctave.fNum, .int .i64 x.fTuning.fOctave.fDen, (.slice va6 x.fTuning.fRatios.length vc6), (.slice va7 x.fSignal.length vc7), .int .i64 x.fSession.fLength, (.slice va9 x.fSession.fSources.length vc9), (.slice va10 x.fSession.fTracks.length vc10), (.slice va11 x.fSession.fFeeds.length vc11), (.slice va12 x.fSession.fEffects.length vc12), (.slice va13 x.fSession.fMixer.fStrips.length vc13)] HL.out HCC.out (GTempoMap.rd_mk R1.out))
  have HA2 := hide (show T.at w x.fTuning.fs b (o + 2) from T.at_sub [(.slice va0 x.fScore.fNotes.length vc0), (.slice va1 x.fTempos.fTempos.length vc1)] [.int .i64 x.fTuning.fBase.fNum, .int .i64 x.fTuning.fBase.fDen, .int .i64 x.fTuning.fOctave.fNum, .int .i64 x.fTuning.fOctave.fDen, (.slice va6 x.fTuning.fRatios.length vc6)] [(.slice va7 x.fSignal.length vc7), .int .i64 x.fSession.fLength, (.slice va9 x.fSession.fSources.length vc9), (.slice va10 x.fSession.fTracks.length vc10), (.slice va11 x.fSession.fFeeds.length vc11), (.slice va12 x.fSession.fEffects.length vc12), (.slice va13 x.fSession.fMixer.fStrips.length vc13)] HL.out HCC.out (GTuning.rd_mk R6.out))
  have HA4 := hide (show T.at w x.fSession.fs b (o + 8) from T.at_sub [(.slice va0 x.fScore.fNotes.length vc0), (.slice va1 x.fTempos.fTempos.length vc1), .int .i64 x.fTuning.fBase.fNum, .int .i64 x.fTuning.fBase.fDen, .int .i64 x.fTuning.fOctave.fNum, .int .i64 x.fTuning.fOctave.fDen, (.slice va6 x.fTuning.fRatios.length vc6), (.slice va7 x.fSignal.length vc7)] [.int .i64 x.fSession.fLength, (.slice va9 x.fSession.fSources.length vc9), (.slice va10 x.fSession.fTracks.length vc10), (.slice va11 x.fSession.fFeeds.length vc11), (.slice va12 x.fSession.fEffects.length vc12), (.slice va13 x.fSession.fMixer.fStrips.length vc13)] [] HL.out HCC.out (GSession.rd_mk R9.out R10.out (T.rd_ints.2 R11.out) R12.out R13.out))
  have p7 : w.cell? ⟨b, o + 7, none⟩ = some (.slice va7 x.fSignal.length vc7) := (HB0.out.cell HL.out).trans (HCC.out 7 _ rfl)
  have lb : b < w.heap.size := Nat.lt_of_lt_of_le HL.out HB0.out.size
  by_cases h0 : ScoreOk x.fScore
  rotate_left
  ·
    have q0 := tf_no h0; have N_ := hide h0; clear h0
    go_enter Tryz.func37, Tryz.ntmps37
    go_wp2_with (first | (go_at_call 90; refine (c_l18Ok x.fScore _ _ _ (T.at_below HA0.out HB0.out)).mono ?_; rintro e w1 ⟨rfl, hb⟩; rw [q0]; have HB1 := hide (bthen HB0.out HB0.out.size hb); clear hb p7 lb; have p7 : w1.cell? ⟨b, o + 7, none⟩ = some (.slice va7 x.fSignal.length vc7) := (HB1.out.cell HL.out).trans (HCC.out 7 _ rfl); have lb : b < w1.heap.size := Nat.lt_of_lt_of_le HL.out HB1.out.size))
    go_ret
    exact ⟨ret_bool (tf_no (fun h => N_.out (HDI.out.1 h).1)).symm, HB1.out⟩
  have q0 := tf_yes h0; have H0 := hide h0; clear h0
  by_cases h1 : TemposOk x.fTempos.fTempos
  rotate_left
  ·
    have q1 := tf_no h1; have N_ := hide h1; clear h1
    go_enter Tryz.func37, Tryz.ntmps37
    go_wp2_with (first | (go_at_call 90; refine (c_l18Ok x.fScore _ _ _ (T.at_below HA0.out HB0.out)).mono ?_; rintro e w1 ⟨rfl, hb⟩; rw [q0]; have HB1 := hide (bthen HB0.out HB0.out.size hb); clear hb p7 lb; have p7 : w1.cell? ⟨b, o + 7, none⟩ = some (.slice va7 x.fSignal.length vc7) := (HB1.out.cell HL.out).trans (HCC.out 7 _ rfl); have lb : b < w1.heap.size := Nat.lt_of_lt_of_le HL.out HB1.out.size) | (go_at_call 91; refine (c_l17Ok x.fTempos _ _ _ (T.at_below HA1.out HB1.out)).mono ?_; rintro e w2 ⟨rfl, hb⟩; rw [q1]; have HB2 := hide (bthen HB1.out HB1.out.size hb); clear hb p7 lb; have p7 : w2.cell? ⟨b, o + 7, none⟩ = some (.slice va7 x.fSignal.length vc7) := (HB2.out.cell HL.out).trans (HCC.out 7 _ rfl); have lb : b < w2.heap.size := Nat.lt_of_lt_of_le HL.out HB2.out.size))
    go_ret
    exact ⟨ret_bool (tf_no (fun h => N_.out (HDI.out.1 h).2.1)).symm, HB2.out⟩
  have q1 := tf_yes h1; have H1 := hide h1; clear h1
  by_cases h2 : TuningOk x.fTuning
  rotate_left
  ·
    have q2 := tf_no h2; have N_ := hide h2; clear h2
    go_enter Tryz.func37, Tryz.ntmps37
    go_wp2_with (first | (go_at_call 90; refine (c_l18Ok x.fScore _ _ _ (T.at_below HA0.out HB0.out)).mono ?_; rintro e w1 ⟨rfl, hb⟩; rw [q0]; have HB1 := hide (bthen HB0.out HB0.out.size hb); clear hb p7 lb; have p7 : w1.cell? ⟨b, o + 7, none⟩ = some (.slice va7 x.fSignal.length vc7) := (HB1.out.cell HL.out).trans (HCC.out 7 _ rfl); have lb : b < w1.heap.size := Nat.lt_of_lt_of_le HL.out HB1.out.size) | (go_at_call 91; refine (c_l17Ok x.fTempos _ _ _ (T.at_below HA1.out HB1.out)).mono ?_; rintro e w2 ⟨rfl, hb⟩; rw [q1]; have HB2 := hide (bthen HB1.out HB1.out.size hb); clear hb p7 lb; have p7 : w2.cell? ⟨b, o + 7, none⟩ = some (.slice va7 x.fSignal.length vc7) := (HB2.out.cell HL.out).trans (HCC.out 7 _ rfl); have lb : b < w2.heap.size := Nat.lt_of_lt_of_le HL.out HB2.out.size) | (go_at_call 92; refine (c_l15Ok x.fTuning _ _ _ (T.at_below HA2.out HB2.out)).mono ?_; rintro e w3 ⟨rfl, hb⟩; rw [q2]; have HB3 := hide (bthen HB2.out HB2.out.size hb); clear hb p7 lb; have p7 : w3.cell? ⟨b, o + 7, none⟩ = some (.slice va7 x.fSignal.length vc7) := (HB3.out.cell HL.out).trans (HCC.out 7 _ rfl); have lb : b < w3.heap.size := Nat.lt_of_lt_of_le HL.out HB3.out.size))
    go_ret
    exact ⟨ret_bool (tf_no (fun h => N_.out (HDI.out.1 h).2.2.1)).symm, HB3.out⟩
  have q2 := tf_yes h2; have H2 := hide h2; clear h2
  by_cases h3 : sigB x.fSignal = true
  rotate_left
  ·
    have q3 : sigB x.fSignal = false := (by simpa using h3); have N_ := hide h3; clear h3
    go_enter Tryz.func37, Tryz.ntmps37
    go_wp2_with (first | (go_at_call 90; refine (c_l18Ok x.fScore _ _ _ (T.at_below HA0.out HB0.out)).mono ?_; rintro e w1 ⟨rfl, hb⟩; rw [q0]; have HB1 := hide (bthen HB0.out HB0.out.size hb); clear hb p7 lb; have p7 : w1.cell? ⟨b, o + 7, none⟩ = some (.slice va7 x.fSignal.length vc7) := (HB1.out.cell HL.out).trans (HCC.out 7 _ rfl); have lb : b < w1.heap.size := Nat.lt_of_lt_of_le HL.out HB1.out.size) | (go_at_call 91; refine (c_l17Ok x.fTempos _ _ _ (T.at_below HA1.out HB1.out)).mono ?_; rintro e w2 ⟨rfl, hb⟩; rw [q1]; have HB2 := hide (bthen HB1.out HB1.out.size hb); clear hb p7 lb; have p7 : w2.cell? ⟨b, o + 7, none⟩ = some (.slice va7 x.fSignal.length vc7) := (HB2.out.cell HL.out).trans (HCC.out 7 _ rfl); have lb : b < w2.heap.size := Nat.lt_of_lt_of_le HL.out HB2.out.size) | (go_at_call 92; refine (c_l15Ok x.fTuning _ _ _ (T.at_below HA2.out HB2.out)).mono ?_; rintro e w3 ⟨rfl, hb⟩; rw [q2]; have HB3 := hide (bthen HB2.out HB2.out.size hb); clear hb p7 lb; have p7 : w3.cell? ⟨b, o + 7, none⟩ = some (.slice va7 x.fSignal.length vc7) := (HB3.out.cell HL.out).trans (HCC.out 7 _ rfl); have lb : b < w3.heap.size := Nat.lt_of_lt_of_le HL.out HB3.out.size) | (go_at_call 58; refine (c_l03Ok _ x.fSignal _ (Rd.below R7.out HB3.out)).mono ?_; rintro e w' ⟨rfl, rfl⟩))
    go_ret
    exact ⟨ret_bool (tf_no (fun h => N_.out (HDI.out.1 h).2.2.2.1)).symm, HB3.out⟩
  have q3 := h3; have H3 := hide h3; clear h3
  by_cases h4 : SessionOk x.fSession
  rotate_left
  ·
    have q4 := tf_no h4; have N_ := hide h4; clear h4
    go_enter Tryz.func37, Tryz.ntmps37
    go_wp2_with (first | (go_at_call 90; refine (c_l18Ok x.fScore _ _ _ (T.at_below HA0.out HB0.out)).mono ?_; rintro e w1 ⟨rfl, hb⟩; rw [q0]; have HB1 := hide (bthen HB0.out HB0.out.size hb); clear hb p7 lb; have p7 : w1.cell? ⟨b, o + 7, none⟩ = some (.slice va7 x.fSignal.length vc7) := (HB1.out.cell HL.out).trans (HCC.out 7 _ rfl); have lb : b < w1.heap.size := Nat.lt_of_lt_of_le HL.out HB1.out.size) | (go_at_call 91; refine (c_l17Ok x.fTempos _ _ _ (T.at_below HA1.out HB1.out)).mono ?_; rintro e w2 ⟨rfl, hb⟩; rw [q1]; have HB2 := hide (bthen HB1.out HB1.out.size hb); clear hb p7 lb; have p7 : w2.cell? ⟨b, o + 7, none⟩ = some (.slice va7 x.fSignal.length vc7) := (HB2.out.cell HL.out).trans (HCC.out 7 _ rfl); have lb : b < w2.heap.size := Nat.lt_of_lt_of_le HL.out HB2.out.size) | (go_at_call 92; refine (c_l15Ok x.fTuning _ _ _ (T.at_below HA2.out HB2.out)).mono ?_; rintro e w3 ⟨rfl, hb⟩; rw [q2]; have HB3 := hide (bthen HB2.out HB2.out.size hb); clear hb p7 lb; have p7 : w3.cell? ⟨b, o + 7, none⟩ = some (.slice va7 x.fSignal.length vc7) := (HB3.out.cell HL.out).trans (HCC.out 7 _ rfl); have lb : b < w3.heap.size := Nat.lt_of_lt_of_le HL.out HB3.out.size) | (go_at_call 58; refine (c_l03Ok _ x.fSignal _ (Rd.below R7.out HB3.out)).mono ?_; rintro e w' ⟨rfl, rfl⟩) | (go_at_call 20; refine (c_l27Ok x.fSession _ _ _ HSM.out.2.2.2.2 (T.at_below HA4.out HB3.out)).mono ?_; rintro e w4 ⟨rfl, hb⟩; rw [q4]; have HB4 := hide (bthen HB3.out HB3.out.size hb); clear hb p7 lb; have p7 : w4.cell? ⟨b, o + 7, none⟩ = some (.slice va7 x.fSignal.length vc7) := (HB4.out.cell HL.out).trans (HCC.out 7 _ rfl); have lb : b < w4.heap.size := Nat.lt_of_lt_of_le HL.out HB4.out.size))
    go_ret
    exact ⟨ret_bool (tf_no (fun h => N_.out (HDI.out.1 h).2.2.2.2)).symm, HB4.out⟩
  have q4 := tf_yes h4; have H4 := hide h4; clear h4
  go_enter Tryz.func37, Tryz.ntmps37
  go_wp2_with (first | (go_at_call 90; refine (c_l18Ok x.fScore _ _ _ (T.at_below HA0.out HB0.out)).mono ?_; rintro e w1 ⟨rfl, hb⟩; rw [q0]; have HB1 := hide (bthen HB0.out HB0.out.size hb); clear hb p7 lb; have p7 : w1.cell? ⟨b, o + 7, none⟩ = some (.slice va7 x.fSignal.length vc7) := (HB1.out.cell HL.out).trans (HCC.out 7 _ rfl); have lb : b < w1.heap.size := Nat.lt_of_lt_of_le HL.out HB1.out.size) | (go_at_call 91; refine (c_l17Ok x.fTempos _ _ _ (T.at_below HA1.out HB1.out)).mono ?_; rintro e w2 ⟨rfl, hb⟩; rw [q1]; have HB2 := hide (bthen HB1.out HB1.out.size hb); clear hb p7 lb; have p7 : w2.cell? ⟨b, o + 7, none⟩ = some (.slice va7 x.fSignal.length vc7) := (HB2.out.cell HL.out).trans (HCC.out 7 _ rfl); have lb : b < w2.heap.size := Nat.lt_of_lt_of_le HL.out HB2.out.size) | (go_at_call 92; refine (c_l15Ok x.fTuning _ _ _ (T.at_below HA2.out HB2.out)).mono ?_; rintro e w3 ⟨rfl, hb⟩; rw [q2]; have HB3 := hide (bthen HB2.out HB2.out.size hb); clear hb p7 lb; have p7 : w3.cell? ⟨b, o + 7, none⟩ = some (.slice va7 x.fSignal.length vc7) := (HB3.out.cell HL.out).trans (HCC.out 7 _ rfl); have lb : b < w3.heap.size := Nat.lt_of_lt_of_le HL.out HB3.out.size) | (go_at_call 58; refine (c_l03Ok _ x.fSignal _ (Rd.below R7.out HB3.out)).mono ?_; rintro e w' ⟨rfl, rfl⟩) | (go_at_call 20; refine (c_l27Ok x.fSession _ _ _ HSM.out.2.2.2.2 (T.at_below HA4.out HB3.out)).mono ?_; rintro e w4 ⟨rfl, hb⟩; rw [q4]; have HB4 := hide (bthen HB3.out HB3.out.size hb); clear hb p7 lb; have p7 : w4.cell? ⟨b, o + 7, none⟩ = some (.slice va7 x.fSignal.length vc7) := (HB4.out.cell HL.out).trans (HCC.out 7 _ rfl); have lb : b < w4.heap.size := Nat.lt_of_lt_of_le HL.out HB4.out.size))
  go_ret
  exact ⟨ret_bool (tf_yes (HDI.out.2 ⟨H0.out, H1.out, H2.out, H3.out, H4.out⟩)).symm, HB4.out⟩
end Go.Proofs.YteiflbhcehajkaaGreatDoor
end
section
namespace Go.Proofs.YteiflbhcehajkaaGreatDoor
open Go.RowKit
end Go.Proofs.YteiflbhcehajkaaGreatDoor
end
section
namespace Go.Proofs
open Go.Shelf
def Tryz.laysM173_ren : Go.Shelf.Ren := ⟨fun | 173 => 101 | 246 => 151 | 283 => 196 | 284 => 197 | 285 => 198 | 286 => 199 | 129 => 225 | 317 => 224 | 318 => 226 | 319 => 227 | 320 => 228 | 337 => 239 | 338 => 240 | n => n, fun | 2 => 2 | 3 => 3 | 9 => 9 | 4 => 4 | 171 => 285 | 0 => 0 | 53 => 279 | 37 => 138 | 5 => 5 | 173 => 288 | 212 => 307 | 51 => 308 | 20 => 20 | 213 => 309 | 46 => 311 | 232 => 322 | 233 => 323 | n => n, fun | 17 => 0 | 18 => 2 | 19 => 3 | n => n⟩
theorem Tryz.laysM173 : Go.Proofs.LaysM.n173 Tryz.prog Tryz.laysM173_ren := {
  mixed := by kernel_rfl
  f129 := Tryz.func225.trans (congrArg some (by kernel_rfl))
  f173 := Tryz.func101.trans (congrArg some (by kernel_rfl))
  f246 := Tryz.func151.trans (congrArg some (by kernel_rfl))
  f283 := Tryz.func196.trans (congrArg some (by kernel_rfl))
  f284 := Tryz.func197.trans (congrArg some (by kernel_rfl))
  f285 := Tryz.func198.trans (congrArg some (by kernel_rfl))
  f286 := Tryz.func199.trans (congrArg some (by kernel_rfl))
  f317 := Tryz.func224.trans (congrArg some (by kernel_rfl))
  f318 := Tryz.func226.trans (congrArg some (by kernel_rfl))
  f319 := Tryz.func227.trans (congrArg some (by kernel_rfl))
  f320 := Tryz.func228.trans (congrArg some (by kernel_rfl))
  f337 := Tryz.func239.trans (congrArg some (by kernel_rfl))
  f338 := Tryz.func240.trans (congrArg some (by kernel_rfl))
  t0 := Tryz.underlying0
  a0 := Tryz.isAgg0
  z0 := Tryz.sizeOf0
  v0 := Tryz.zeroValue0
  t2 := Tryz.underlying2
  a2 := Tryz.isAgg2
  z2 := Tryz.sizeOf2
  v2 := Tryz.zeroValue2
  t3 := Tryz.underlying3
  a3 := Tryz.isAgg3
  z3 := Tryz.sizeOf3
  v3 := Tryz.zeroValue3
  t4 := Tryz.underlying4
  a4 := Tryz.isAgg4
  z4 := Tryz.sizeOf4
  v4 := Tryz.zeroValue4
  t5 := Tryz.underlying5
  a5 := Tryz.isAgg5
  z5 := Tryz.sizeOf5
  v5 := Tryz.zeroValue5
  t9 := Tryz.underlying9
  a9 := Tryz.isAgg9
  z9 := Tryz.sizeOf9
  v9 := Tryz.zeroValue9
  t20 := Tryz.underlying20
  a20 := Tryz.isAgg20
  z20 := Tryz.sizeOf20
  v20 := Tryz.zeroValue20
  t37 := Tryz.underlying138
  a37 := Tryz.isAgg138
  z37 := Tryz.sizeOf138
  v37 := Tryz.zeroValue138
  t46 := Tryz.underlying311
  a46 := Tryz.isAgg311
  z46 := Tryz.sizeOf311
  v46 := Tryz.zeroValue311
  t51 := Tryz.underlying308
  a51 := Tryz.isAgg308
  z51 := Tryz.sizeOf308
  v51 := Tryz.zeroValue308
  t53 := Tryz.underlying279
  a53 := Tryz.isAgg279
  z53 := Tryz.sizeOf279
  v53 := Tryz.zeroValue279
  t171 := Tryz.underlying285
  a171 := Tryz.isAgg285
  z171 := Tryz.sizeOf285
  v171 := Tryz.zeroValue285
  t173 := Tryz.underlying288
  a173 := Tryz.isAgg288
  z173 := Tryz.sizeOf288
  v173 := Tryz.zeroValue288
  t212 := Tryz.underlying307
  a212 := Tryz.isAgg307
  z212 := Tryz.sizeOf307
  v212 := Tryz.zeroValue307
  t213 := Tryz.underlying309
  a213 := Tryz.isAgg309
  z213 := Tryz.sizeOf309
  t232 := Tryz.underlying322
  a232 := Tryz.isAgg322
  z232 := Tryz.sizeOf322
  v232 := Tryz.zeroValue322
  t233 := Tryz.underlying323
  a233 := Tryz.isAgg323
  z233 := Tryz.sizeOf323
  v233 := Tryz.zeroValue323
  g17 := by kernel_rfl
  g18 := by kernel_rfl
  g19 := by kernel_rfl
  i0 := by kernel_rfl
  i2 := by kernel_rfl
  i3 := by kernel_rfl
  i4 := by kernel_rfl
  i5 := by kernel_rfl
  i9 := by kernel_rfl
  i20 := by kernel_rfl
  i37 := by kernel_rfl
  i46 := by kernel_rfl
  i51 := by kernel_rfl
  i53 := by kernel_rfl
  i171 := by kernel_rfl
  i173 := by kernel_rfl
  i212 := by kernel_rfl
  i232 := by kernel_rfl
  i233 := by kernel_rfl
  m17 := by kernel_rfl
  m18 := by kernel_rfl
  m19 := by kernel_rfl }
open Go.RowKit Go.Sort Go.Lib in
theorem Tryz.strconv_FormatInt_10 (n : Int) (h0 : -9223372036854775808 ≤ n) (h1 : n ≤ 9223372036854775807) (w : World) (htab : Lib.TabIs Tryz.prog w "internal/strconv.uint64pow10" .u64 Lib.pow10Tab) :
    Calls Tryz.prog 101 #[.int .i64 n, .int .i64 10] w fun e w' => e = .returned (.string ⟨(Lib.itoa n).toArray⟩) ∧ ∃ k os, w' = grow (w.drewN k) os := Any.strconv_FormatInt_10 Tryz.laysM173 n h0 h1 w htab
end Go.Proofs
end
section
namespace Go.Proofs.YteiflbhcehajkaaGreatDoor
open Go.RowKit
theorem info_u8 : (Tryz.prog.info? 5).map (fun i => (i.zero, i.size, i.bytes)) = some (some (.int .u8 0), 1, 1) := by kernel_rfl
theorem oneCell_bytes (l : List UInt8) : ∀ u ∈ l.map (fun b => Value.int .u8 (b.toNat : Int)), u.oneCell' = true := by
  intro u hu
  obtain ⟨b, _, rfl⟩ := List.mem_map.1 hu
  rfl
theorem appm_u8 {w : World} {ops : Array Oper} {rest : List Oper} {o : Oper} {a : Act} {Q : Exit → Act → World → Prop} (hgd : o.guard = none) (s x : Operand)
    (ho : o.op = .call { callee := .builtin .append, args := #[s, x], argTypes := #[138, 138] }) {B : Nat} {v : Value} {xs : List UInt8} (hs : a.eval s = v) (hown : OwY 5 w B v xs)
    {y : Value} {ys : List UInt8} (hx : a.eval x = y) (hr : RdY w y ys) (hl : xs.length + ys.length ≤ 140737488355328) (hB : B ≤ w.heap.size)
    (h : ∀ v' w', OwY 5 w' B v' (xs ++ ys) → w.grownBy w' v.ownBlock → (∀ k, v'.ownBlock = some k → v.ownBlock = some k ∨ w.heap.size ≤ k) → wpList Tryz.prog ops Q rest (a.put o.dst v') w') :
    wpList Tryz.prog ops Q (o :: rest) a w :=
  app_many hgd s x _ ho B _ _ 1 1 Tryz.underlying138 info_u8 rfl (by omega) v xs.length _ hs hown y ys.length _ hx hr (oneCell_bytes _) (by omega) (by omega) hB
    fun v' w' h1 h2 h3 => h v' w' (by unfold OwY; simpa using h1) h2 h3
theorem new_u8 (w : World) : OwY 5 (w.alloc (.cells #[] 5)) w.heap.size (.slice (some ⟨w.heap.size, 0, none⟩) 0 0) [] := World.ownsRow_made w #[] 0 (Nat.le_refl _) (by decide) rfl
theorem str_of {w : World} {v : Value} {bs : List UInt8} (h : RdY w v bs) : (convert 138 9 v).run Tryz.prog w = .ok (.string (mkS bs)) w :=
  run_str Tryz.underlying138 Tryz.underlying5 Tryz.underlying9 h
end Go.Proofs.YteiflbhcehajkaaGreatDoor
end
section
namespace Go.Proofs.YteiflbhcehajkaaGreatDoor
open Go.RowKit
/-- The library's table of powers of ten holds what its text says. -/
def TB (w : World) : Prop := Lib.TabIs Tryz.prog w "internal/strconv.uint64pow10" .u64 Lib.pow10Tab
theorem TB.keep {w w' : World} (h : TB w) (hk : ∀ b, b < w.heap.size → w'.heap[b]? = w.heap[b]?) : TB w' := by
  unfold TB Lib.TabIs World.var? at *
  cases hg : Tryz.prog.globalNamed "internal/strconv.uint64pow10" with
  | none => simp [hg] at h
  | some g =>
    simp only [hg, Option.bind_some] at h ⊢
    have hlt : g < w.heap.size := by
      rcases Nat.lt_or_ge g w.heap.size with h' | h'
      · exact h'
      · rw [Array.getElem?_eq_none h'] at h; simp at h
    rw [hk g hlt]
    exact h
theorem TB.below {w w' : World} (h : TB w) (hb : Below w.heap.size w w') : TB w' := h.keep fun b hlt => hb.block b hlt
theorem below_grow (w : World) (k : Nat) (os : Array Obj) : Below w.heap.size w (Go.Sort.grow (w.drewN k) os) :=
  ⟨rfl, rfl, rfl, by simp [Go.Sort.grow], fun b hb => by simp [Go.Sort.grow, Array.getElem?_append_left hb]⟩
theorem c_iDec (n : Int) (w : World) (ht : TB w) (h0 : -9223372036854775808 ≤ n) (h1 : n ≤ 9223372036854775807) : Calls Tryz.prog 43 #[.int .i64 n] w fun e w' => e = .returned (.string (decS n)) ∧ Below w.heap.size w w' := by
  go_enter Tryz.func43, Tryz.ntmps43
  go_wp2_with fail
  refine (Tryz.strconv_FormatInt_10 n h0 h1 _ ht).mono ?_; rintro e w1 ⟨rfl, k, os, rfl⟩
  have hb := below_grow w k os
  have HB := hide hb; clear hb
  generalize Go.Sort.grow (w.drewN k) os = w1 at *
  go_wp2
  go_ret
  exact ⟨rfl, HB.out⟩
theorem byte_own (B : Nat) (c : UInt8) (w : World) (hB : B ≤ w.heap.size) : OwY 5 (w.alloc (.cells #[.int .u8 (c.toNat : Int)] 5)) B (.slice (some ⟨w.heap.size, 0, none⟩) 1 1) [c] := by
  have := World.ownsRow_lit (base := B) (e := 5) (size := 1) w #[.int .u8 (c.toNat : Int)] 1 hB (by decide) rfl
  unfold OwY
  simp only [List.length_cons, List.length_nil, List.map_cons, List.map_nil]
  exact this
set_option maxHeartbeats 1000000 in
set_option maxRecDepth 20000 in
theorem c_l01Dec (n : Nat) (w : World) (h1 : n ≤ 9223372036854775807) : Calls Tryz.prog 38 #[.int .i64 (n : Int)] w fun e w' => e = .returned (.string (decS (n : Int))) ∧ Below w.heap.size w w' := by
  have hnn : ¬ (n : Int) < 0 := by omega
  generalize hD : decS (n : Int) = D
  have HDD := hide hD; clear hD
  go_enter Tryz.func38, Tryz.ntmps38
  go_wp2
  go_loopw [3, 4] (fun o kv wr => ∃ (m : Nat) (l : List UInt8), m ≤ n ∧ kv = .int .i64 (m : Int) ∧ preD n = preD m ++ l ∧ l.length ≤ 19 ∧ OwY 5 wr w.heap.size o l ∧ Below w.heap.size w wr) (fun _ kv _ => (intOf kv).toNat)
  case atStart => exact ⟨n, [], Nat.le_refl _, rfl, by simp, by simp, new_u8 w, (Below.refl _ _).alloc (Nat.le_refl _) _⟩
  case round =>
    obtain ⟨m, l, hm, rfl, hp, hll, ho, hb⟩ := hrel
    have HP := hide hp; have HO := hide ho; have HB := hide hb; have hsz := hb.size; clear hp hb
    by_cases hz : m = 0
    · have hl : preD n = l := by have := HP.out; rw [this, hz]; simp [preD]
      have hz2 : ((m : Int) != 0) = false := by simp; omega
      by_cases h0 : n = 0
      · have hle : l = [] := by rw [← hl, h0]; simp [preD]
        subst hle
        obtain ⟨A, cap, rfl, _, _, _⟩ := Rd.of_own ho |>.2
        have hdec : decS (n : Int) = mkS [48] := by unfold decS; rw [h0]; show mkS (decL 0) = _; rw [decL_zero]
        have HDE := hide (HDD.out.symm.trans hdec)
        clear hdec h0 hl ho
        go_wp2
        go_ret
        exact ⟨ret_str (by rw [HDE.out]; rfl), HB.out⟩
      · have hdec : decS (n : Int) = mkS l := by unfold decS; rw [decL_pos (by omega), show (n : Int).natAbs = n by omega, hl]
        have hl1 : 0 < l.length := by
          rcases Nat.eq_zero_or_pos l.length with h | h
          · have := List.eq_nil_of_length_eq_zero h
            rw [this] at hl
            have h2 := (dec_digits n).2.2
            simp [preD, h0] at hl
            exact absurd hl h2
          · exact h
        have hlb : ((l.length : Int) == 0) = false := beq_eq_false_iff_ne.2 (by omega)
        have hc := str_of ho.rd
        obtain ⟨A, cap, rfl, _, _, _⟩ := Rd.of_own ho |>.2
        have HDE := hide (HDD.out.symm.trans hdec)
        clear hdec hl ho
        go_wp2
        go_ret
        exact ⟨ret_str (by rw [HDE.out]), HB.out⟩
    · have hz2 : ((m : Int) != 0) = true := by simp; omega
      have hmod : (m : Int) % 10 = ((m % 10 : Nat) : Int) := by omega
      have hdiv : (m : Int) / 10 = ((m / 10 : Nat) : Int) := by omega
      have hd : m % 10 < 10 := Nat.mod_lt _ (by omega)
      have HS := hide (preD_step (u := m) (by omega))
      have hlen : ([UInt8.ofNat (48 + m % 10)] ++ l).length ≤ 19 := by
        have h3 := preD_len 19 n (by omega)
        rw [HP.out, HS.out] at h3
        simp at h3 ⊢; omega
      generalize hdd : m % 10 = d at *
      have hq : m / 10 < m := by omega
      generalize hqq : m / 10 = q at *
      have hcn : ((UInt8.ofNat (48 + d)).toNat : Int) = 48 + (d : Int) := by rw [dig_of hd]; omega
      have HOWN : Sec (∀ W : World, w.heap.size ≤ W.heap.size → OwY 5 (W.alloc (.cells #[.int .u8 (48 + (d : Int))] 5)) w.heap.size (.slice (some ⟨W.heap.size, 0, none⟩) 1 1) [UInt8.ofNat (48 + d)]) := hide (by
        intro W hW
        have := byte_own w.heap.size (UInt8.ofNat (48 + d)) W hW
        rw [hcn] at this
        exact this)
      have HLEN := hide hlen
      clear hdd hqq hlen ho hcn
      go_wp2_with (at_builtin; refine appm_u8 rfl _ _ rfl rfl (HOWN.out _ hsz) rfl (show RdY _ _ _ from Rd.below HO.out.rd ((Below.refl _ _).alloc (Nat.le_refl _) _)) (by simp; omega) (by simp; omega) ?_; intro v3 w3 ho3 hg3 hv3; have hb3 := below_own (HB.out.alloc HB.out.size _) (HOWN.out _ hsz) hg3 (Nat.le_refl _) (by simp; omega); have HO3 := hide ho3; have HB3 := hide hb3; clear ho3 hb3 hv3 hg3)
      go_roundw
      case rel => exact ⟨q, [UInt8.ofNat (48 + d)] ++ l, by omega, by go_num, by rw [HP.out, HS.out]; simp, HLEN.out, HO3.out, HB3.out⟩
      case measure => simp [intOf]; omega
end Go.Proofs.YteiflbhcehajkaaGreatDoor
end
