/- Contracts: DeskText, both sides. The words of the translation's head, without running through its whole list of roots; and the closed facts of a row out of them. The law DeskText. The table of powers of ten, out of what the row of DeskText lists. -/
import Derived.Test.YteiflbhcehajkaaGreatDoorQBkExactDeskText
import Derived.Test.YteiflbhcehajkaaGreatDoorQAjExactDeskText
import Derived.Test.YteiflbhcehajkaaGreatDoorRows
import Derived.ProofKit
import Derived.Test.YteiflbhcehajkaaGreatDoorQAiExactDeskText
import Derived.LaidMore
import Derived.OpenShut
import Derived.Deep.RegionHeld3
set_option linter.unusedVariables false
set_option linter.unusedSimpArgs false
section
namespace Go.Proofs.YteiflbhcehajkaaGreatDoor
open Go.RowKit
def deskT (x : GDesk) : ByteArray := ((((((⟨#[110, 111, 116, 101, 115, 32]⟩ : ByteArray) ++ decS (x.fScore.fNotes.length : Int) ++ (⟨#[32, 116, 101, 109, 112, 111, 115, 32]⟩ : ByteArray)) ++ decS (x.fTempos.fTempos.length : Int) ++ (⟨#[32, 100, 101, 103, 114, 101, 101, 115, 32]⟩ : ByteArray)) ++ decS (x.fTuning.fRatios.length : Int) ++ (⟨#[32, 115, 97, 109, 112, 108, 101, 115, 32]⟩ : ByteArray)) ++ decS (x.fSignal.length : Int) ++ (⟨#[32, 115, 111, 117, 114, 99, 101, 115, 32]⟩ : ByteArray)) ++ decS (x.fSession.fSources.length : Int) ++ (⟨#[32, 116, 114, 97, 99, 107, 115, 32]⟩ : ByteArray)) ++ decS (x.fSession.fTracks.length : Int)
noncomputable def textD (x : GDesk) : ByteArray := if tf (DeskOk x) = true then deskT x else ⟨#[]⟩
theorem textD_yes {x : GDesk} (h : DeskOk x) : textD x = deskT x := if_pos (tf_yes h)
theorem textD_no {x : GDesk} (h : ¬ DeskOk x) : textD x = ⟨#[]⟩ := if_neg (by rw [tf_no h]; simp)
theorem decS_small (n : Nat) (h : n ≤ 1048576) : (decS (n : Int)).size ≤ 21 := by
  unfold decS; rw [size_mkS]; exact length_decL (by omega) (by omega)
theorem c_sizeNote (A : Option Addr) (n c : Nat) (w : World) (h : n ≤ 9223372036854775807) : Calls Tryz.prog 44 #[.slice A n c] w fun e w' => e = .returned (.int .i64 (n : Int)) ∧ w = w' := by
  have hw : IntKind.i64.wrap (n : Int) = n := IntWalk.i64_in _ (by omega)
  go_enter Tryz.func44, Tryz.ntmps44
  go_wp2
  go_ret
  exact ⟨rfl, rfl⟩
set_option maxHeartbeats 2000000 in
set_option maxRecDepth 20000 in
theorem c_iDeskText (x : GDesk) (cs : List Value) (w : World) (ht : TB w) (hs : x.small) (h : T.rds w x.fs cs) : Calls Tryz.prog 13 #[.agg cs.toArray] w fun e w' => e = .returned (.string (textD x)) ∧ Below w.heap.size w w' := by
  obtain ⟨v0, v1, v6, v7, v9, v10, v11, v12, v13, rfl, h0, h1, h6, h7, h9, h10, h11, h12, h13⟩ := GDesk.rd_open h
  clear h
  have R0 := hide h0; obtain ⟨va0, vc0, rfl, vl0, vm0, vx0⟩ := T.rd_openG h0
  have HX0 := hide vx0; clear vx0 h0
  have R1 := hide h1; obtain ⟨va1, vc1, rfl, vl1, vm1, vx1⟩ := T.rd_openG h1
  have HX1 := hide vx1; clear vx1 h1
  have R6 := hide h6; obtain ⟨va6, vc6, rfl, vl6, vm6, vx6⟩ := T.rd_openG h6
  have HX6 := hide vx6; clear vx6 h6
  have h7i := T.rd_ints.1 h7; obtain ⟨va7, vc7, rfl, vl7, vm7, vx7⟩ := h7i.open_
  have R7 := hide h7i; have HX7 := hide vx7; clear vx7 h7 h7i
  have R9 := hide h9; obtain ⟨va9, vc9, rfl, vl9, vm9, vx9⟩ := T.rd_openG h9
  have HX9 := hide vx9; clear vx9 h9
  have R10 := hide h10; obtain ⟨va10, vc10, rfl, vl10, vm10, vx10⟩ := T.rd_openG h10
  have HX10 := hide vx10; clear vx10 h10
  have h11i := T.rd_ints.1 h11; obtain ⟨va11, vc11, rfl, vl11, vm11, vx11⟩ := h11i.open_
  have R11 := hide h11i; have HX11 := hide vx11; clear vx11 h11 h11i
  have R12 := hide h12; obtain ⟨va12, vc12, rfl, vl12, vm12, vx12⟩ := T.rd_openG h12
  have HX12 := hide vx12; clear vx12 h12
  have R13 := hide h13; obtain ⟨va13, vc13, rfl, vl13, vm13, vx13⟩ := T.rd_openG h13
  have HX13 := hide vx13; clear vx13 h13
  have HB0 := hide (show Below w.heap.size w (w.alloc (.cells #[(.slice va0 x.fScore.fNotes.length vc0), (.slice va1 x.fTempos.fTempos.length vc1), .int .i64 x.fTuning.fBase.fNum, .int .i64 x.fTuning.fBase.fDen, .int .i64 x.fTuning.fOctave.fNum, .int .i64 x.fTuning.fOctave.fDen, (.slice va6 x.fTuning.fRatios.length vc6), (.slice va7 x.fSignal.length vc7), .int .i64 x.fSession.fLength, (.slice va9 x.fSession.fSources.length vc9), (.slice va10 x.fSession.fTracks.length vc10), (.slice va11 x.fSession.fFeeds.length vc11), (.slice va12 x.fSession.fEffects.length vc12), (.slice va13 x.fSession.fMixer.fStrips.length vc13)] 69)) from (Below.refl _ _).alloc (Nat.le_refl _) _)
  have HK0 := hide (Bk.born w 69 #[(.slice va0 x.fScore.fNotes.length vc0), (.slice va1 x.fTempos.fTempos.length vc1), .int .i64 x.fTuning.fBase.fNum, .int .i64 x.fTuning.fBase.fDen, .int .i64 x.fTuning.fOctave.fNum, .int .i64 x.fTuning.fOctave.fDen, (.slice va6 x.fTuning.fRatios.length vc6), (.slice va7 x.fSignal.length vc7), .int .i64 x.fSession.fLength, (.slice va9 x.fSession.fSources.length vc9), (.slice va10 x.fSession.fTracks.length vc10), (.slice va11 x.fSession.fFeeds.length vc11), (.slice va12 x.fSession.fEffects.length vc12), (.slice va13 x.fSession.fMixer.fStrips.length vc13)])
  have HTB := hide ht; clear ht
  have n0 := hs.1; have n1 := hs.2.1; have n2 := hs.2.2.1; have n3 := hs.2.2.2.1; have n4 : x.fSession.fSources.length ≤ 1048576 := hs.2.2.2.2.1.1; have n5 : x.fSession.fTracks.length ≤ 1048576 := hs.2.2.2.2.2.1.1
  have d0 := decS_small x.fScore.fNotes.length (by omega)
  have d1 := decS_small x.fTempos.fTempos.length (by omega)
  have d2 := decS_small x.fTuning.fRatios.length (by omega)
  have d3 := decS_small x.fSignal.length (by omega)
  have d4 := decS_small x.fSession.fSources.length (by omega)
  have d5 := decS_small x.fSession.fTracks.length (by omega)
  have TY := hide (@textD_yes x); have TN := hide (@textD_no x); generalize hT : textD x = TT at *; clear hT
  go_enter Tryz.func13, Tryz.ntmps13
  go_wp2_with fail
  refine (c_isDesk x _ _ hs (GDesk.rd_mk (T.rd_below R0.out HB0.out) (T.rd_below R1.out HB0.out) (T.rd_below R6.out HB0.out) (T.rd_ints.2 (Rd.below R7.out HB0.out)) (T.rd_below R9.out HB0.out) (T.rd_below R10.out HB0.out) (T.rd_ints.2 (Rd.below R11.out HB0.out)) (T.rd_below R12.out HB0.out) (T.rd_below R13.out HB0.out))).mono ?_; rintro e w1 ⟨rfl, hd⟩
  have hb : Below (w.alloc (.cells #[(.slice va0 x.fScore.fNotes.length vc0), (.slice va1 x.fTempos.fTempos.length vc1), .int .i64 x.fTuning.fBase.fNum, .int .i64 x.fTuning.fBase.fDen, .int .i64 x.fTuning.fOctave.fNum, .int .i64 x.fTuning.fOctave.fDen, (.slice va6 x.fTuning.fRatios.length vc6), (.slice va7 x.fSignal.length vc7), .int .i64 x.fSession.fLength, (.slice va9 x.fSession.fSources.length vc9), (.slice va10 x.fSession.fTracks.length vc10), (.slice va11 x.fSession.fFeeds.length vc11), (.slice va12 x.fSession.fEffects.length vc12), (.slice va13 x.fSession.fMixer.fStrips.length vc13)] 69)).heap.size (w.alloc (.cells #[(.slice va0 x.fScore.fNotes.length vc0), (.slice va1 x.fTempos.fTempos.length vc1), .int .i64 x.fTuning.fBase.fNum, .int .i64 x.fTuning.fBase.fDen, .int .i64 x.fTuning.fOctave.fNum, .int .i64 x.fTuning.fOctave.fDen, (.slice va6 x.fTuning.fRatios.length vc6), (.slice va7 x.fSignal.length vc7), .int .i64 x.fSession.fLength, (.slice va9 x.fSession.fSources.length vc9), (.slice va10 x.fSession.fTracks.length vc10), (.slice va11 x.fSession.fFeeds.length vc11), (.slice va12 x.fSession.fEffects.length vc12), (.slice va13 x.fSession.fMixer.fStrips.length vc13)] 69)) w1 := by first | exact hd | exact hd.to_below _ | exact hd ▸ Below.refl _ _
  have HK1 := hide (HK0.out.below hb HK0.out.lt); have HB1 := hide (bthen HB0.out HB0.out.size hb); clear hb hd; have ka := HK1.out.cell; have la := HK1.out.lt
  by_cases hv : DeskOk x
  rotate_left
  ·
    rw [tf_no hv]; have HT := hide (TN.out hv)
    go_wp2
    go_ret
    exact ⟨by rw [HT.out]; rfl, HB1.out⟩
  rw [tf_yes hv]; have HT := hide (TY.out hv)
  go_wp2_with fail
  have g0 := bel_bk HK1.out
  refine wp_region_bel (by kernel_rfl) (by kernel_rfl) ?_
  repeat (first | go_big_quiet_skip | (go_big_quiet_want; go_big_quiet_op; first | go_big_quiet_on | (apply Exists.intro; refine ⟨fun _ => ?_, ?_⟩; (· (first | (go_at_call 44; exact Calls.quiet_bel_same (c_sizeNote _ _ _ _ (by omega))) | (go_at_call 45; exact Calls.quiet_bel_same (c_sizeTempo _ _ _ _ (by omega))) | (go_at_call 46; exact Calls.quiet_bel_same (c_sizeFrac _ _ _ _ (by omega))) | (go_at_call 47; exact Calls.quiet_bel_same (c_size _ x.fSignal _ (Rd.below R7.out (bthen HB1.out HB1.out.size (bel_below w1 _))))) | (go_at_call 48; exact Calls.quiet_bel_same (c_sizeLL _ _ _ _ (by omega))) | (go_at_call 49; exact Calls.quiet_bel_same (c_sizeTrack _ _ _ _ (by omega))) | (go_at_call 43; exact Calls.quiet_bel (c_iDec _ _ (HTB.out.below (bthen HB1.out HB1.out.size (bel_below w1 _))) (by omega) (by omega))) | (rw [if_neg (by first | omega | (simp [ByteArray.size_append]; omega))]; exact ⟨rfl, rfl⟩))); go_big_quiet_on)))
  refine wpQuiet_nil ?_
  rintro w9 ⟨uu, rfl⟩
  have hb9 := bel_below w1 uu
  generalize bel w1 uu = w9 at *
  have H9 := hide (bthen HB1.out HB1.out.size hb9); clear hb9 g0
  go_wp2
  go_ret
  exact ⟨by rw [HT.out]; rfl, H9.out⟩
set_option maxHeartbeats 2000000 in
set_option maxRecDepth 20000 in
theorem c_sDeskText (x : GDesk) (cs : List Value) (w : World) (hs : x.small) (h : T.rds w x.fs cs) : Calls Tryz.prog 11 #[.agg cs.toArray] w fun e w' => e = .returned (.string (textD x)) ∧ Below w.heap.size w w' := by
  obtain ⟨v0, v1, v6, v7, v9, v10, v11, v12, v13, rfl, h0, h1, h6, h7, h9, h10, h11, h12, h13⟩ := GDesk.rd_open h
  clear h
  have R0 := hide h0; obtain ⟨va0, vc0, rfl, vl0, vm0, vx0⟩ := T.rd_openG h0
  have HX0 := hide vx0; clear vx0 h0
  have R1 := hide h1; obtain ⟨va1, vc1, rfl, vl1, vm1, vx1⟩ := T.rd_openG h1
  have HX1 := hide vx1; clear vx1 h1
  have R6 := hide h6; obtain ⟨va6, vc6, rfl, vl6, vm6, vx6⟩ := T.rd_openG h6
  have HX6 := hide vx6; clear vx6 h6
  have h7i := T.rd_ints.1 h7; obtain ⟨va7, vc7, rfl, vl7, vm7, vx7⟩ := h7i.open_
  have R7 := hide h7i; have HX7 := hide vx7; clear vx7 h7 h7i
  have R9 := hide h9; obtain ⟨va9, vc9, rfl, vl9, vm9, vx9⟩ := T.rd_openG h9
  have HX9 := hide vx9; clear vx9 h9
  have R10 := hide h10; obtain ⟨va10, vc10, rfl, vl10, vm10, vx10⟩ := T.rd_openG h10
  have HX10 := hide vx10; clear vx10 h10
  have h11i := T.rd_ints.1 h11; obtain ⟨va11, vc11, rfl, vl11, vm11, vx11⟩ := h11i.open_
  have R11 := hide h11i; have HX11 := hide vx11; clear vx11 h11 h11i
  have R12 := hide h12; obtain ⟨va12, vc12, rfl, vl12, vm12, vx12⟩ := T.rd_openG h12
  have HX12 := hide vx12; clear vx12 h12
  have R13 := hide h13; obtain ⟨va13, vc13, rfl, vl13, vm13, vx13⟩ := T.rd_openG h13
  have HX13 := hide vx13; clear vx13 h13
  have HB0 := hide (show Below w.heap.size w (w.alloc (.cells #[(.slice va0 x.fScore.fNotes.length vc0), (.slice va1 x.fTempos.fTempos.length vc1), .int .i64 x.fTuning.fBase.fNum, .int .i64 x.fTuning.fBase.fDen, .int .i64 x.fTuning.fOctave.fNum, .int .i64 x.fTuning.fOctave.fDen, (.slice va6 x.fTuning.fRatios.length vc6), (.slice va7 x.fSignal.length vc7), .int .i64 x.fSession.fLength, (.slice va9 x.fSession.fSources.length vc9), (.slice va10 x.fSession.fTracks.length vc10), (.slice va11 x.fSession.fFeeds.length vc11), (.slice va12 x.fSession.fEffects.length vc12), (.slice va13 x.fSession.fMixer.fStrips.length vc13)] 69)) from (Below.refl _ _).alloc (Nat.le_refl _) _)
  have HK0 := hide (Bk.born w 69 #[(.slice va0 x.fScore.fNotes.length vc0), (.slice va1 x.fTempos.fTempos.length vc1), .int .i64 x.fTuning.fBase.fNum, .int .i64 x.fTuning.fBase.fDen, .int .i64 x.fTuning.fOctave.fNum, .int .i64 x.fTuning.fOctave.fDen, (.slice va6 x.fTuning.fRatios.length vc6), (.slice va7 x.fSignal.length vc7), .int .i64 x.fSession.fLength, (.slice va9 x.fSession.fSources.length vc9), (.slice va10 x.fSession.fTracks.length vc10), (.slice va11 x.fSession.fFeeds.length vc11), (.slice va12 x.fSession.fEffects.length vc12), (.slice va13 x.fSession.fMixer.fStrips.length vc13)])
  have n0 := hs.1; have n1 := hs.2.1; have n2 := hs.2.2.1; have n3 := hs.2.2.2.1; have n4 : x.fSession.fSources.length ≤ 1048576 := hs.2.2.2.2.1.1; have n5 : x.fSession.fTracks.length ≤ 1048576 := hs.2.2.2.2.2.1.1
  have d0 := decS_small x.fScore.fNotes.length (by omega)
  have d1 := decS_small x.fTempos.fTempos.length (by omega)
  have d2 := decS_small x.fTuning.fRatios.length (by omega)
  have d3 := decS_small x.fSignal.length (by omega)
  have d4 := decS_small x.fSession.fSources.length (by omega)
  have d5 := decS_small x.fSession.fTracks.length (by omega)
  have TY := hide (@textD_yes x); have TN := hide (@textD_no x); generalize hT : textD x = TT at *; clear hT
  go_enter Tryz.func11, Tryz.ntmps11
  go_wp2_with fail
  refine (c_l33Ok x _ _ _ hs (T.at_bk HK0.out (GDesk.rd_mk (T.rd_below R0.out HB0.out) (T.rd_below R1.out HB0.out) (T.rd_below R6.out HB0.out) (T.rd_ints.2 (Rd.below R7.out HB0.out)) (T.rd_below R9.out HB0.out) (T.rd_below R10.out HB0.out) (T.rd_ints.2 (Rd.below R11.out HB0.out)) (T.rd_below R12.out HB0.out) (T.rd_below R13.out HB0.out)))).mono ?_; rintro e w1 ⟨rfl, hd⟩
  have hb : Below (w.alloc (.cells #[(.slice va0 x.fScore.fNotes.length vc0), (.slice va1 x.fTempos.fTempos.length vc1), .int .i64 x.fTuning.fBase.fNum, .int .i64 x.fTuning.fBase.fDen, .int .i64 x.fTuning.fOctave.fNum, .int .i64 x.fTuning.fOctave.fDen, (.slice va6 x.fTuning.fRatios.length vc6), (.slice va7 x.fSignal.length vc7), .int .i64 x.fSession.fLength, (.slice va9 x.fSession.fSources.length vc9), (.slice va10 x.fSession.fTracks.length vc10), (.slice va11 x.fSession.fFeeds.length vc11), (.slice va12 x.fSession.fEffects.length vc12), (.slice va13 x.fSession.fMixer.fStrips.length vc13)] 69)).heap.size (w.alloc (.cells #[(.slice va0 x.fScore.fNotes.length vc0), (.slice va1 x.fTempos.fTempos.length vc1), .int .i64 x.fTuning.fBase.fNum, .int .i64 x.fTuning.fBase.fDen, .int .i64 x.fTuning.fOctave.fNum, .int .i64 x.fTuning.fOctave.fDen, (.slice va6 x.fTuning.fRatios.length vc6), (.slice va7 x.fSignal.length vc7), .int .i64 x.fSession.fLength, (.slice va9 x.fSession.fSources.length vc9), (.slice va10 x.fSession.fTracks.length vc10), (.slice va11 x.fSession.fFeeds.length vc11), (.slice va12 x.fSession.fEffects.length vc12), (.slice va13 x.fSession.fMixer.fStrips.length vc13)] 69)) w1 := by first | exact hd | exact hd.to_below _ | exact hd ▸ Below.refl _ _
  have HK1 := hide (HK0.out.below hb HK0.out.lt); have HB1 := hide (bthen HB0.out HB0.out.size hb); clear hb hd; have ka := HK1.out.cell; have la := HK1.out.lt
  by_cases hv : DeskOk x
  rotate_left
  ·
    rw [tf_no hv]; have HT := hide (TN.out hv)
    go_wp2
    go_ret
    exact ⟨by rw [HT.out]; rfl, HB1.out⟩
  rw [tf_yes hv]; have HT := hide (TY.out hv)
  go_wp2_with fail
  have g0 := bel_bk HK1.out
  refine wp_region_bel (by kernel_rfl) (by kernel_rfl) ?_
  repeat (first | go_big_quiet_skip | (go_big_quiet_want; go_big_quiet_op; first | go_big_quiet_on | (apply Exists.intro; refine ⟨fun _ => ?_, ?_⟩; (· (first | (go_at_call 38; exact Calls.quiet_bel (c_l01Dec _ _ (by omega))) | (rw [if_neg (by first | omega | (simp [ByteArray.size_append]; omega))]; exact ⟨rfl, rfl⟩))); go_big_quiet_on)))
  refine wpQuiet_nil ?_
  rintro w9 ⟨uu, rfl⟩
  have hb9 := bel_below w1 uu
  generalize bel w1 uu = w9 at *
  have H9 := hide (bthen HB1.out HB1.out.size hb9); clear hb9 g0
  go_wp2
  go_ret
  exact ⟨by rw [HT.out]; rfl, H9.out⟩
end Go.Proofs.YteiflbhcehajkaaGreatDoor
end
section
namespace Go.Proofs.YteiflbhcehajkaaGreatDoor
open Go.ChangeShapes
theorem words_pre : ∀ (a r : List Char), (a.all fun c => c != Char.ofNat 32) = true → wordsSigns (a ++ Char.ofNat 32 :: r) = a :: wordsSigns r
  | [], r, _ => rfl
  | c :: a, r, h => by
    simp only [List.all_cons, Bool.and_eq_true, bne_iff_ne, ne_eq] at h
    have ih := words_pre a r (by simpa using h.2)
    rw [List.cons_append]
    conv => lhs; unfold wordsSigns
    split
    · rename_i e; cases e
    · rename_i e
      injection e with e1 _
      exact absurd e1 h.1
    · rename_i e
      injection e with e1 e2
      subst e1 e2
      rw [ih]
set_option maxRecDepth 100000 in
theorem head_list : ∃ l, Tryz.prog.initOrder = String.ofList l ∧ ("harness 432e97c760b475d9aecfe5ffffa695e6824ca7530c21e6b00d4be30ebc2f7736 cut ".toList).isPrefixOf l = true := by
  refine ⟨_, rfl, ?_⟩
  kernel_rfl
theorem head_words : ∃ X, wordsSigns Tryz.prog.initOrder.toList = "harness".toList :: "432e97c760b475d9aecfe5ffffa695e6824ca7530c21e6b00d4be30ebc2f7736".toList :: "cut".toList :: X := by
  obtain ⟨l, hl, hp⟩ := head_list
  obtain ⟨r, hr⟩ := List.isPrefixOf_iff_prefix.1 hp
  have e : "harness 432e97c760b475d9aecfe5ffffa695e6824ca7530c21e6b00d4be30ebc2f7736 cut ".toList = "harness".toList ++ Char.ofNat 32 :: ("432e97c760b475d9aecfe5ffffa695e6824ca7530c21e6b00d4be30ebc2f7736".toList ++ Char.ofNat 32 :: ("cut".toList ++ [Char.ofNat 32])) := by kernel_rfl
  refine ⟨wordsSigns r, ?_⟩
  rw [hl, String.toList_ofList, ← hr, e]
  simp only [List.append_assoc, List.cons_append, List.nil_append]
  rw [words_pre _ _ (by kernel_rfl), words_pre _ _ (by kernel_rfl), words_pre _ _ (by kernel_rfl)]
theorem behind : ∃ X, behindMainWord (wordsSigns Tryz.prog.initOrder.toList) = "cut".toList :: X := by
  obtain ⟨X, hX⟩ := head_words
  refine ⟨X, ?_⟩
  rw [hX]
  have e1 : ("harness".toList == "harness".toList || "harness".toList == "ownmain".toList) = true := by kernel_rfl
  have e2 : isSumSigns "432e97c760b475d9aecfe5ffffa695e6824ca7530c21e6b00d4be30ebc2f7736".toList = true := by kernel_rfl
  unfold behindMainWord
  dsimp only
  rw [e1, e2]; rfl
section
variable {P : Program} {X : List (List Char)}
theorem make_of (hX : behindMainWord (wordsSigns P.initOrder.toList) = "cut".toList :: X) : P.make = some .cut := by
  unfold Program.make
  rw [hX]; rfl
theorem lifts_of (X : List (List Char)) : stripLifts liftWords ("cut".toList :: X) = ([], "cut".toList :: X) := rfl
theorem headLifts_of (hX : behindMainWord (wordsSigns P.initOrder.toList) = "cut".toList :: X) : P.headLifts = [] := by
  unfold Program.headLifts
  rw [hX, lifts_of]; rfl
theorem liftsFinal_of (hX : behindMainWord (wordsSigns P.initOrder.toList) = "cut".toList :: X) : P.liftsFinal = false := by
  unfold Program.liftsFinal
  rw [hX, headLifts_of hX]; rfl
theorem mayEnter_of (hX : behindMainWord (wordsSigns P.initOrder.toList) = "cut".toList :: X) (h1 : P.laysLater = false) (h2 : P.bearsReflect = false) (h3 : P.doorFits [] = true) : P.mayEnter = true := by
  unfold Program.mayEnter
  rw [hX]
  dsimp only
  rw [lifts_of, h1, h2, h3]
  rfl
end
theorem make_is : Tryz.prog.make = some .cut := by
  obtain ⟨X, hX⟩ := behind
  exact make_of hX
theorem liftsFinal_is : Tryz.prog.liftsFinal = false := by
  obtain ⟨X, hX⟩ := behind
  exact liftsFinal_of hX
theorem mayEnter_is : Tryz.prog.mayEnter = true := by
  obtain ⟨X, hX⟩ := behind
  exact mayEnter_of hX (by kernel_rfl) (by kernel_rfl) (by kernel_rfl)
theorem laidOut_is : laidOutB Tryz.prog = true := by kernel_rfl
theorem own_is : ownKnob Tryz.prog.godebug = none := by kernel_rfl
end Go.Proofs.YteiflbhcehajkaaGreatDoor
end
section
namespace Go.Proofs.YteiflbhcehajkaaGreatDoor
open Go.RowKit
theorem b_szDesk (x : GDesk) (cs : List Value) (n : Int) (w : World) (hn : 0 ≤ n) (hm : n ≤ 1048576) (hg : x.good) (h : T.rds w x.fs cs) : Calls Tryz.prog 10 #[.agg cs.toArray, .int .i64 n] w fun e w' => ∃ m : Int, e = .returned (.int .i64 m) ∧ -1 ≤ m ∧ m ≤ n ∧ (0 ≤ m → x.small) ∧ Below w.heap.size w w' := by
  obtain ⟨v0, v1, v6, v7, v9, v10, v11, v12, v13, rfl, h0, h1, h6, h7, h9, h10, h11, h12, h13⟩ := GDesk.rd_open h
  exact c_szDesk x _ _ _ _ _ _ _ _ _ n w hn hm hg h0 h1 h6 h7 h9 h10 h11 h12 h13
set_option maxHeartbeats 4000000 in
set_option maxRecDepth 100000 in
theorem law_DeskText (x : GDesk) (cs : List Value) (w : World) (ht : TB w) (hx : T.rds w x.fs cs) (gx : x.good) : Calls Tryz.prog 4 #[.agg cs.toArray] w fun e w' => e = .returned (.bool true) ∧ Below w.heap.size w w' := by
  have HX := hide hx
  obtain ⟨v0, v1, v6, v7, v9, v10, v11, v12, v13, rfl, vr0, vr1, vr6, vr7, vr9, vr10, vr11, vr12, vr13⟩ := GDesk.rd_open hx
  obtain ⟨va0, vl0, vc0, rfl⟩ := T.rd_slice vr0; clear vr0
  obtain ⟨va1, vl1, vc1, rfl⟩ := T.rd_slice vr1; clear vr1
  obtain ⟨va6, vl6, vc6, rfl⟩ := T.rd_slice vr6; clear vr6
  obtain ⟨va7, vl7, vc7, rfl⟩ := T.rd_slice vr7; clear vr7
  obtain ⟨va9, vl9, vc9, rfl⟩ := T.rd_slice vr9; clear vr9
  obtain ⟨va10, vl10, vc10, rfl⟩ := T.rd_slice vr10; clear vr10
  obtain ⟨va11, vl11, vc11, rfl⟩ := T.rd_slice vr11; clear vr11
  obtain ⟨va12, vl12, vc12, rfl⟩ := T.rd_slice vr12; clear vr12
  obtain ⟨va13, vl13, vc13, rfl⟩ := T.rd_slice vr13; clear vr13
  clear hx
  have H0 := hide (show Below w.heap.size w (w.alloc (.cells #[(.slice va0 vl0 vc0), (.slice va1 vl1 vc1), .int .i64 x.fTuning.fBase.fNum, .int .i64 x.fTuning.fBase.fDen, .int .i64 x.fTuning.fOctave.fNum, .int .i64 x.fTuning.fOctave.fDen, (.slice va6 vl6 vc6), (.slice va7 vl7 vc7), .int .i64 x.fSession.fLength, (.slice va9 vl9 vc9), (.slice va10 vl10 vc10), (.slice va11 vl11 vc11), (.slice va12 vl12 vc12), (.slice va13 vl13 vc13)] 55)) from (Below.refl _ _).alloc (Nat.le_refl _) _)
  have K0 := hide (Bk.born w 55 #[(.slice va0 vl0 vc0), (.slice va1 vl1 vc1), .int .i64 x.fTuning.fBase.fNum, .int .i64 x.fTuning.fBase.fDen, .int .i64 x.fTuning.fOctave.fNum, .int .i64 x.fTuning.fOctave.fDen, (.slice va6 vl6 vc6), (.slice va7 vl7 vc7), .int .i64 x.fSession.fLength, (.slice va9 vl9 vc9), (.slice va10 vl10 vc10), (.slice va11 vl11 vc11), (.slice va12 vl12 vc12), (.slice va13 vl13 vc13)])
  go_enter Tryz.func4, Tryz.ntmps4
  have HTB := hide ht; clear ht
  go_wp2_with fail
  refine (b_szDesk x _ 1048576 _ (by omega) (by omega) gx (T.rds_below HX.out H0.out)).mono ?_; rintro e w1 ⟨m, rfl, hm0, hm1, hsx, hb⟩
  have H1 := hide (bthen H0.out H0.out.size hb); have K1 := hide (K0.out.below hb K0.out.lt)
  clear hb; have k0 := K1.out.cell; have l0 := K1.out.lt
  by_cases cm : m < 0
  · go_wp2
    go_ret
    exact ⟨rfl, H1.out⟩
  have sx := hsx (by omega)
  go_wp2_with fail
  refine (b_toDesk x _ _ sx (T.rds_below HX.out H1.out)).mono ?_; rintro e w2 ⟨ds, rfl, hds, hb⟩
  have Du := hide hds
  have H2 := hide (bthen H1.out H1.out.size hb); have K2 := hide (K1.out.below hb K1.out.lt)
  clear hb k0 l0; have k0 := K2.out.cell; have l0 := K2.out.lt
  obtain ⟨u0, u1, u6, u7, u9, u10, u11, u12, u13, rfl, ur0, ur1, ur6, ur7, ur9, ur10, ur11, ur12, ur13⟩ := GDesk.rd_open hds
  obtain ⟨ua0, ul0, uc0, rfl⟩ := T.rd_slice ur0; clear ur0
  obtain ⟨ua1, ul1, uc1, rfl⟩ := T.rd_slice ur1; clear ur1
  obtain ⟨ua6, ul6, uc6, rfl⟩ := T.rd_slice ur6; clear ur6
  obtain ⟨ua7, ul7, uc7, rfl⟩ := T.rd_slice ur7; clear ur7
  obtain ⟨ua9, ul9, uc9, rfl⟩ := T.rd_slice ur9; clear ur9
  obtain ⟨ua10, ul10, uc10, rfl⟩ := T.rd_slice ur10; clear ur10
  obtain ⟨ua11, ul11, uc11, rfl⟩ := T.rd_slice ur11; clear ur11
  obtain ⟨ua12, ul12, uc12, rfl⟩ := T.rd_slice ur12; clear ur12
  obtain ⟨ua13, ul13, uc13, rfl⟩ := T.rd_slice ur13; clear ur13
  go_wp2_with fail
  refine (c_sDeskText x _ _ sx Du.out).mono ?_; rintro e w3 ⟨rfl, hb⟩
  have H3 := hide (bthen H2.out H2.out.size hb); have K3 := hide (K2.out.below hb K2.out.lt)
  clear hb k0 l0; have k0 := K3.out.cell; have l0 := K3.out.lt
  go_wp2_with fail
  refine (b_toDesk x _ _ sx (T.rds_below HX.out H3.out)).mono ?_; rintro e w4 ⟨ds, rfl, hds, hb⟩
  have Dt := hide hds
  have H4 := hide (bthen H3.out H3.out.size hb); have K4 := hide (K3.out.below hb K3.out.lt)
  clear hb k0 l0; have k0 := K4.out.cell; have l0 := K4.out.lt
  obtain ⟨t0, t1, t6, t7, t9, t10, t11, t12, t13, rfl, tr0, tr1, tr6, tr7, tr9, tr10, tr11, tr12, tr13⟩ := GDesk.rd_open hds
  obtain ⟨ta0, tl0, tc0, rfl⟩ := T.rd_slice tr0; clear tr0
  obtain ⟨ta1, tl1, tc1, rfl⟩ := T.rd_slice tr1; clear tr1
  obtain ⟨ta6, tl6, tc6, rfl⟩ := T.rd_slice tr6; clear tr6
  obtain ⟨ta7, tl7, tc7, rfl⟩ := T.rd_slice tr7; clear tr7
  obtain ⟨ta9, tl9, tc9, rfl⟩ := T.rd_slice tr9; clear tr9
  obtain ⟨ta10, tl10, tc10, rfl⟩ := T.rd_slice tr10; clear tr10
  obtain ⟨ta11, tl11, tc11, rfl⟩ := T.rd_slice tr11; clear tr11
  obtain ⟨ta12, tl12, tc12, rfl⟩ := T.rd_slice tr12; clear tr12
  obtain ⟨ta13, tl13, tc13, rfl⟩ := T.rd_slice tr13; clear tr13
  have HA := hide (show Below w4.heap.size w4 (w4.alloc (.cells #[(.slice ta0 tl0 tc0), (.slice ta1 tl1 tc1), .int .i64 x.fTuning.fBase.fNum, .int .i64 x.fTuning.fBase.fDen, .int .i64 x.fTuning.fOctave.fNum, .int .i64 x.fTuning.fOctave.fDen, (.slice ta6 tl6 tc6), (.slice ta7 tl7 tc7), .int .i64 x.fSession.fLength, (.slice ta9 tl9 tc9), (.slice ta10 tl10 tc10), (.slice ta11 tl11 tc11), (.slice ta12 tl12 tc12), (.slice ta13 tl13 tc13)] 69)) from (Below.refl _ _).alloc (Nat.le_refl _) _)
  have KX0 := hide (Bk.born w4 69 #[(.slice ta0 tl0 tc0), (.slice ta1 tl1 tc1), .int .i64 x.fTuning.fBase.fNum, .int .i64 x.fTuning.fBase.fDen, .int .i64 x.fTuning.fOctave.fNum, .int .i64 x.fTuning.fOctave.fDen, (.slice ta6 tl6 tc6), (.slice ta7 tl7 tc7), .int .i64 x.fSession.fLength, (.slice ta9 tl9 tc9), (.slice ta10 tl10 tc10), (.slice ta11 tl11 tc11), (.slice ta12 tl12 tc12), (.slice ta13 tl13 tc13)])
  have HTA := hide (HTB.out.below (bthen H4.out H4.out.size HA.out))
  go_wp2_with fail
  refine (c_iDeskText x _ _ HTA.out sx (T.rds_below Dt.out HA.out)).mono ?_; rintro e w5 ⟨rfl, hb9⟩
  have hb := bthen HA.out HA.out.size hb9
  have DX := hide (T.rds_below Dt.out hb); have KX := hide (KX0.out.below hb9 KX0.out.lt); clear hb9
  have H5 := hide (bthen H4.out H4.out.size hb); have K5 := hide (K4.out.below hb K4.out.lt)
  clear hb k0 l0; have k0 := K5.out.cell; have l0 := K5.out.lt
  generalize textD x = ans at *
  have kx := KX.out.cell; have lx := KX.out.lt
  have hne : (ans.toList != ans.toList) = false := by simp
  go_wp2
  go_region_held3 (fun w' => (∀ i, w'.cell? ⟨w.heap.size, i, none⟩ = #[(.slice va0 vl0 vc0), (.slice va1 vl1 vc1), .int .i64 x.fTuning.fBase.fNum, .int .i64 x.fTuning.fBase.fDen, .int .i64 x.fTuning.fOctave.fNum, .int .i64 x.fTuning.fOctave.fDen, (.slice va6 vl6 vc6), (.slice va7 vl7 vc7), .int .i64 x.fSession.fLength, (.slice va9 vl9 vc9), (.slice va10 vl10 vc10), (.slice va11 vl11 vc11), (.slice va12 vl12 vc12), (.slice va13 vl13 vc13)][i]?) ∧ (∀ i, w'.cell? ⟨w4.heap.size, i, none⟩ = #[(.slice ta0 tl0 tc0), (.slice ta1 tl1 tc1), .int .i64 x.fTuning.fBase.fNum, .int .i64 x.fTuning.fBase.fDen, .int .i64 x.fTuning.fOctave.fNum, .int .i64 x.fTuning.fOctave.fDen, (.slice ta6 tl6 tc6), (.slice ta7 tl7 tc7), .int .i64 x.fSession.fLength, (.slice ta9 tl9 tc9), (.slice ta10 tl10 tc10), (.slice ta11 tl11 tc11), (.slice ta12 tl12 tc12), (.slice ta13 tl13 tc13)][i]?)) (first | exact ⟨K5.out.cell, KX.out.cell⟩ | exact ⟨(K5.out.below c6.out K5.out.lt).cell, (KX.out.below c6.out KX.out.lt).cell⟩ | exact ⟨(K5.out.below c5.out K5.out.lt).cell, (KX.out.below c5.out KX.out.lt).cell⟩) (first | (go_at_call 12; refine (b_toDesk x _ _ sx (T.rds_below HX.out (by first | exact H5.out | exact H5.out.drew | exact below_drewN H5.out _))).mono ?_; rintro e wA ⟨fs, rfl, hfs, hb5⟩; have c5 := hide (show Below w5.heap.size w5 wA from (by first | exact hb5 | exact undrew hb5 | exact undrewN hb5)); have F5 := hide hfs) | (go_at_call 14; refine (b_eqDesk x _ _ _ (T.rds_below DX.out (by first | exact c5.out | exact c5.out.drew | exact below_drewN c5.out _)) (T.rds_below F5.out (by first | exact Below.refl _ _ | exact (Below.refl _ _).drew | exact below_drewN (Below.refl _ _) _))).mono ?_; rintro e wB ⟨rfl, hb6⟩; have c6 := hide (bthen c5.out c5.out.size (show Below wA.heap.size wA wB from (by first | exact hb6 | exact undrew hb6 | exact undrewN hb6)))))
  have H9 := hide (bthen H5.out H5.out.size c6.out)
  go_wp2
  go_ret
  exact ⟨rfl, H9.out⟩
end Go.Proofs.YteiflbhcehajkaaGreatDoor
end
section
namespace Go.Proofs.YteiflbhcehajkaaGreatDoor
open Go.RowKit Go.ChangeShapes Go.WideShapes
theorem tb_of_laid {W : World} (h : laidMetH Tryz.prog Rows.fnExactDeskTextRow.laid W) : TB W := by
  rw [MakeChecks.laidMetH_plain _ _ _ (by kernel_rfl)] at h
  obtain ⟨ps, ⟨g0, t0, cs0, f0, p0, q0, hg0, ht0, hv0, hd0, ⟨g1, t1, cs1, f1, p1, q1, hg1, ht1, hv1, hd1, ⟨g2, t2, cs2, f2, p2, q2, hg2, ht2, hv2, hd2, _, _⟩, _⟩, _⟩, _, _⟩ := h
  obtain rfl := Option.some.inj ((show Tryz.prog.globalNamed "internal/strconv.uint64pow10" = some 0 by kernel_rfl).symm.trans hg2)
  obtain rfl := Option.some.inj ((show (Tryz.prog.globals[(0 : Nat)]?).map (·.type) = some 307 by kernel_rfl).symm.trans ht2)
  unfold TB Lib.TabIs
  rw [hv2, ← Lib.cells_of_tab (k := .u64) (zs := Lib.pow10Tab) Tryz.underlying307 Tryz.underlying279 (by kernel_rfl) (by kernel_rfl) hd2]
end Go.Proofs.YteiflbhcehajkaaGreatDoor
end
