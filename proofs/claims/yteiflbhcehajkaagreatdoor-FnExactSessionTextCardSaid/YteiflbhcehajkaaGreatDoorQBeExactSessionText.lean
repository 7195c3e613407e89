/- Contracts: SessionText, both sides. The words of the translation's head, without running through its whole list of roots; and the closed facts of a row out of them. The law SessionText. The table of powers of ten, out of what the row of SessionText lists. -/
import Derived.Test.YteiflbhcehajkaaGreatDoorQAyExactSessionText
import Derived.Test.YteiflbhcehajkaaGreatDoorQBdExactSessionText
import Derived.Test.YteiflbhcehajkaaGreatDoorRows
import Derived.ProofKit
import Derived.Test.YteiflbhcehajkaaGreatDoorQAgExactSessionText
import Derived.LaidMore
import Derived.OpenShut
import Derived.Deep.RegionHeld3
set_option linter.unusedVariables false
set_option linter.unusedSimpArgs false
section
namespace Go.Proofs.YteiflbhcehajkaaGreatDoor
open Go.RowKit
set_option maxHeartbeats 2000000 in
set_option maxRecDepth 20000 in
theorem c_iSessionText (x : GSession) (cs : List Value) (w : World) (ht : TB w) (hg : x.good) (hs : x.small) (h : T.rds w x.fs cs) : Calls Tryz.prog 8 #[.agg cs.toArray] w fun e w' => e = .returned (.string (textS x)) ∧ Below w.heap.size w w' := by
  obtain ⟨v1, v2, v3, v4, v5, rfl, h1, h2, h3, h4, h5⟩ := GSession.rd_open h
  clear h
  have R1 := hide h1; obtain ⟨va1, vc1, rfl, vl1, vm1, vx1⟩ := T.rd_openG h1
  have HX1 := hide vx1; clear vx1 h1
  have R2 := hide h2; obtain ⟨va2, vc2, rfl, vl2, vm2, vx2⟩ := T.rd_openG h2
  have HX2 := hide vx2; clear vx2 h2
  have h3i := T.rd_ints.1 h3; obtain ⟨va3, vc3, rfl, vl3, vm3, vx3⟩ := h3i.open_
  have R3 := hide h3i; have HX3 := hide vx3; clear vx3 h3 h3i
  have R4 := hide h4; obtain ⟨va4, vc4, rfl, vl4, vm4, vx4⟩ := T.rd_openG h4
  have HX4 := hide vx4; clear vx4 h4
  have R5 := hide h5; obtain ⟨va5, vc5, rfl, vl5, vm5, vx5⟩ := T.rd_openG h5
  have HX5 := hide vx5; clear vx5 h5
  have HB0 := hide (show Below w.heap.size w (w.alloc (.cells #[.int .i64 x.fLength, (.slice va1 x.fSources.length vc1), (.slice va2 x.fTracks.length vc2), (.slice va3 x.fFeeds.length vc3), (.slice va4 x.fEffects.length vc4), (.slice va5 x.fMixer.fStrips.length vc5)] 39)) from (Below.refl _ _).alloc (Nat.le_refl _) _)
  have HK0 := hide (Bk.born w 39 #[.int .i64 x.fLength, (.slice va1 x.fSources.length vc1), (.slice va2 x.fTracks.length vc2), (.slice va3 x.fFeeds.length vc3), (.slice va4 x.fEffects.length vc4), (.slice va5 x.fMixer.fStrips.length vc5)])
  have HTB := hide ht; clear ht
  have TY := hide (@textS_yes x); have TN := hide (@textS_no x); generalize textS x = TT at *
  go_enter Tryz.func8, Tryz.ntmps8
  go_wp2_with fail
  refine (c_isSession x _ _ hs (GSession.rd_mk (T.rd_below R1.out HB0.out) (T.rd_below R2.out HB0.out) (T.rd_ints.2 (Rd.below R3.out HB0.out)) (T.rd_below R4.out HB0.out) (T.rd_below R5.out HB0.out))).mono ?_; rintro e w1 ⟨rfl, hd⟩
  have hb : Below (w.alloc (.cells #[.int .i64 x.fLength, (.slice va1 x.fSources.length vc1), (.slice va2 x.fTracks.length vc2), (.slice va3 x.fFeeds.length vc3), (.slice va4 x.fEffects.length vc4), (.slice va5 x.fMixer.fStrips.length vc5)] 39)).heap.size (w.alloc (.cells #[.int .i64 x.fLength, (.slice va1 x.fSources.length vc1), (.slice va2 x.fTracks.length vc2), (.slice va3 x.fFeeds.length vc3), (.slice va4 x.fEffects.length vc4), (.slice va5 x.fMixer.fStrips.length vc5)] 39)) w1 := by first | exact hd | exact hd.to_below _ | exact hd ▸ Below.refl _ _
  have HK1 := hide (HK0.out.below hb HK0.out.lt); have HB1 := hide (bthen HB0.out HB0.out.size hb); clear hb hd; have ka := HK1.out.cell; have la := HK1.out.lt
  by_cases hv : SessionOk x
  rotate_left
  ·
    rw [tf_no hv]; have HT := hide (TN.out hv)
    go_wp2
    go_ret
    exact ⟨by rw [HT.out]; rfl, HB1.out⟩
  rw [tf_yes hv]; have HT := hide (TY.out hv)
  go_wp2_with fail
  refine (c_sessionText x _ _ hv hg hs (HTB.out.below HB1.out) (GSession.rd_mk (T.rd_below R1.out HB1.out) (T.rd_below R2.out HB1.out) (T.rd_ints.2 (Rd.below R3.out HB1.out)) (T.rd_below R4.out HB1.out) (T.rd_below R5.out HB1.out))).mono ?_; rintro e w2 ⟨rfl, hd⟩
  have H9 := hide (bthen HB1.out HB1.out.size hd); clear hd ka la
  go_wp2
  go_ret
  exact ⟨by rw [HT.out]; rfl, H9.out⟩
set_option maxHeartbeats 2000000 in
set_option maxRecDepth 20000 in
theorem c_sSessionText (x : GSession) (cs : List Value) (w : World) (hg : x.good) (hs : x.small) (h : T.rds w x.fs cs) : Calls Tryz.prog 6 #[.agg cs.toArray] w fun e w' => e = .returned (.string (textS x)) ∧ Below w.heap.size w w' := by
  obtain ⟨v1, v2, v3, v4, v5, rfl, h1, h2, h3, h4, h5⟩ := GSession.rd_open h
  clear h
  have R1 := hide h1; obtain ⟨va1, vc1, rfl, vl1, vm1, vx1⟩ := T.rd_openG h1
  have HX1 := hide vx1; clear vx1 h1
  have R2 := hide h2; obtain ⟨va2, vc2, rfl, vl2, vm2, vx2⟩ := T.rd_openG h2
  have HX2 := hide vx2; clear vx2 h2
  have h3i := T.rd_ints.1 h3; obtain ⟨va3, vc3, rfl, vl3, vm3, vx3⟩ := h3i.open_
  have R3 := hide h3i; have HX3 := hide vx3; clear vx3 h3 h3i
  have R4 := hide h4; obtain ⟨va4, vc4, rfl, vl4, vm4, vx4⟩ := T.rd_openG h4
  have HX4 := hide vx4; clear vx4 h4
  have R5 := hide h5; obtain ⟨va5, vc5, rfl, vl5, vm5, vx5⟩ := T.rd_openG h5
  have HX5 := hide vx5; clear vx5 h5
  have HB0 := hide (show Below w.heap.size w (w.alloc (.cells #[.int .i64 x.fLength, (.slice va1 x.fSources.length vc1), (.slice va2 x.fTracks.length vc2), (.slice va3 x.fFeeds.length vc3), (.slice va4 x.fEffects.length vc4), (.slice va5 x.fMixer.fStrips.length vc5)] 39)) from (Below.refl _ _).alloc (Nat.le_refl _) _)
  have HK0 := hide (Bk.born w 39 #[.int .i64 x.fLength, (.slice va1 x.fSources.length vc1), (.slice va2 x.fTracks.length vc2), (.slice va3 x.fFeeds.length vc3), (.slice va4 x.fEffects.length vc4), (.slice va5 x.fMixer.fStrips.length vc5)])
  have TY := hide (@textS_yes x); have TN := hide (@textS_no x); generalize textS x = TT at *
  go_enter Tryz.func6, Tryz.ntmps6
  go_wp2_with fail
  refine (c_l27Ok x _ _ _ hs (T.at_bk HK0.out (GSession.rd_mk (T.rd_below R1.out HB0.out) (T.rd_below R2.out HB0.out) (T.rd_ints.2 (Rd.below R3.out HB0.out)) (T.rd_below R4.out HB0.out) (T.rd_below R5.out HB0.out)))).mono ?_; rintro e w1 ⟨rfl, hd⟩
  have hb : Below (w.alloc (.cells #[.int .i64 x.fLength, (.slice va1 x.fSources.length vc1), (.slice va2 x.fTracks.length vc2), (.slice va3 x.fFeeds.length vc3), (.slice va4 x.fEffects.length vc4), (.slice va5 x.fMixer.fStrips.length vc5)] 39)).heap.size (w.alloc (.cells #[.int .i64 x.fLength, (.slice va1 x.fSources.length vc1), (.slice va2 x.fTracks.length vc2), (.slice va3 x.fFeeds.length vc3), (.slice va4 x.fEffects.length vc4), (.slice va5 x.fMixer.fStrips.length vc5)] 39)) w1 := by first | exact hd | exact hd.to_below _ | exact hd ▸ Below.refl _ _
  have HK1 := hide (HK0.out.below hb HK0.out.lt); have HB1 := hide (bthen HB0.out HB0.out.size hb); clear hb hd; have ka := HK1.out.cell; have la := HK1.out.lt
  by_cases hv : SessionOk x
  rotate_left
  ·
    rw [tf_no hv]; have HT := hide (TN.out hv)
    go_wp2
    go_ret
    exact ⟨by rw [HT.out]; rfl, HB1.out⟩
  rw [tf_yes hv]; have HT := hide (TY.out hv)
  go_wp2_with fail
  refine (c_l32Text x _ _ _ hv hg hs (T.at_bk HK1.out (GSession.rd_mk (T.rd_below R1.out HB1.out) (T.rd_below R2.out HB1.out) (T.rd_ints.2 (Rd.below R3.out HB1.out)) (T.rd_below R4.out HB1.out) (T.rd_below R5.out HB1.out)))).mono ?_; rintro e w2 ⟨rfl, hd⟩
  have H9 := hide (bthen HB1.out HB1.out.size hd); clear hd ka la
  go_wp2
  go_ret
  exact ⟨by rw [HT.out]; rfl, H9.out⟩
end Go.Proofs.YteiflbhcehajkaaGreatDoor
end
section
namespace Go.Proofs.YteiflbhcehajkaaGreatDoor
open Go.ChangeShapes
theorem words_pre : ∀ (a r : List Char), (a.all fun c => c != Char.ofNat 32) = true → wordsSigns (a ++ Char.ofNat 32 :: r) = a :: wordsSigns r
  | [], r, _ => rfl
  | c :: a, r, h => by
    simp only [List.all_cons, Bool.and_eq_true, bne_iff_ne, ne_eq] at h
    have ih := words_pre a r (by simpa using h.2)
    rw [List.cons_append]
    conv => lhs; unfold wordsSigns
    split
    · rename_i e; cases e
    · rename_i e
      injection e with e1 _
      exact absurd e1 h.1
    · rename_i e
      injection e with e1 e2
      subst e1 e2
      rw [ih]
set_option maxRecDepth 100000 in
theorem head_list : ∃ l, Tryz.prog.initOrder = String.ofList l ∧ ("harness 432e97c760b475d9aecfe5ffffa695e6824ca7530c21e6b00d4be30ebc2f7736 cut ".toList).isPrefixOf l = true := by
  refine ⟨_, rfl, ?_⟩
  kernel_rfl
theorem head_words : ∃ X, wordsSigns Tryz.prog.initOrder.toList = "harness".toList :: "432e97c760b475d9aecfe5ffffa695e6824ca7530c21e6b00d4be30ebc2f7736".toList :: "cut".toList :: X := by
  obtain ⟨l, hl, hp⟩ := head_list
  obtain ⟨r, hr⟩ := List.isPrefixOf_iff_prefix.1 hp
  have e : "harness 432e97c760b475d9aecfe5ffffa695e6824ca7530c21e6b00d4be30ebc2f7736 cut ".toList = "harness".toList ++ Char.ofNat 32 :: ("432e97c760b475d9aecfe5ffffa695e6824ca7530c21e6b00d4be30ebc2f7736".toList ++ Char.ofNat 32 :: ("cut".toList ++ [Char.ofNat 32])) := by kernel_rfl
  refine ⟨wordsSigns r, ?_⟩
  rw [hl, String.toList_ofList, ← hr, e]
  simp only [List.append_assoc, List.cons_append, List.nil_append]
  rw [words_pre _ _ (by kernel_rfl), words_pre _ _ (by kernel_rfl), words_pre _ _ (by kernel_rfl)]
theorem behind : ∃ X, behindMainWord (wordsSigns Tryz.prog.initOrder.toList) = "cut".toList :: X := by
  obtain ⟨X, hX⟩ := head_words
  refine ⟨X, ?_⟩
  rw [hX]
  have e1 : ("harness".toList == "harness".toList || "harness".toList == "ownmain".toList) = true := by kernel_rfl
  have e2 : isSumSigns "432e97c760b475d9aecfe5ffffa695e6824ca7530c21e6b00d4be30ebc2f7736".toList = true := by kernel_rfl
  unfold behindMainWord
  dsimp only
  rw [e1, e2]; rfl
section
variable {P : Program} {X : List (List Char)}
theorem make_of (hX : behindMainWord (wordsSigns P.initOrder.toList) = "cut".toList :: X) : P.make = some .cut := by
  unfold Program.make
  rw [hX]; rfl
theorem lifts_of (X : List (List Char)) : stripLifts liftWords ("cut".toList :: X) = ([], "cut".toList :: X) := rfl
theorem headLifts_of (hX : behindMainWord (wordsSigns P.initOrder.toList) = "cut".toList :: X) : P.headLifts = [] := by
  unfold Program.headLifts
  rw [hX, lifts_of]; rfl
theorem liftsFinal_of (hX : behindMainWord (wordsSigns P.initOrder.toList) = "cut".toList :: X) : P.liftsFinal = false := by
  unfold Program.liftsFinal
  rw [hX, headLifts_of hX]; rfl
theorem mayEnter_of (hX : behindMainWord (wordsSigns P.initOrder.toList) = "cut".toList :: X) (h1 : P.laysLater = false) (h2 : P.bearsReflect = false) (h3 : P.doorFits [] = true) : P.mayEnter = true := by
  unfold Program.mayEnter
  rw [hX]
  dsimp only
  rw [lifts_of, h1, h2, h3]
  rfl
end
theorem make_is : Tryz.prog.make = some .cut := by
  obtain ⟨X, hX⟩ := behind
  exact make_of hX
theorem liftsFinal_is : Tryz.prog.liftsFinal = false := by
  obtain ⟨X, hX⟩ := behind
  exact liftsFinal_of hX
theorem mayEnter_is : Tryz.prog.mayEnter = true := by
  obtain ⟨X, hX⟩ := behind
  exact mayEnter_of hX (by kernel_rfl) (by kernel_rfl) (by kernel_rfl)
theorem laidOut_is : laidOutB Tryz.prog = true := by kernel_rfl
theorem own_is : ownKnob Tryz.prog.godebug = none := by kernel_rfl
end Go.Proofs.YteiflbhcehajkaaGreatDoor
end
section
namespace Go.Proofs.YteiflbhcehajkaaGreatDoor
open Go.RowKit
theorem b_szSession (x : GSession) (cs : List Value) (n : Int) (w : World) (hn : 0 ≤ n) (hm : n ≤ 1048576) (hg : x.good) (h : T.rds w x.fs cs) : Calls Tryz.prog 5 #[.agg cs.toArray, .int .i64 n] w fun e w' => ∃ m : Int, e = .returned (.int .i64 m) ∧ -1 ≤ m ∧ m ≤ n ∧ (0 ≤ m → x.small) ∧ Below w.heap.size w w' := by
  obtain ⟨v1, v2, v3, v4, v5, rfl, h1, h2, h3, h4, h5⟩ := GSession.rd_open h
  exact c_szSession x _ _ _ _ _ n w hn hm hg h1 h2 h3 h4 h5
set_option maxHeartbeats 4000000 in
set_option maxRecDepth 100000 in
theorem law_SessionText (x : GSession) (cs : List Value) (w : World) (ht : TB w) (hx : T.rds w x.fs cs) (gx : x.good) : Calls Tryz.prog 3 #[.agg cs.toArray] w fun e w' => e = .returned (.bool true) ∧ Below w.heap.size w w' := by
  have HX := hide hx
  obtain ⟨v1, v2, v3, v4, v5, rfl, vr1, vr2, vr3, vr4, vr5⟩ := GSession.rd_open hx
  obtain ⟨va1, vl1, vc1, rfl⟩ := T.rd_slice vr1; clear vr1
  obtain ⟨va2, vl2, vc2, rfl⟩ := T.rd_slice vr2; clear vr2
  obtain ⟨va3, vl3, vc3, rfl⟩ := T.rd_slice vr3; clear vr3
  obtain ⟨va4, vl4, vc4, rfl⟩ := T.rd_slice vr4; clear vr4
  obtain ⟨va5, vl5, vc5, rfl⟩ := T.rd_slice vr5; clear vr5
  clear hx
  have H0 := hide (show Below w.heap.size w (w.alloc (.cells #[.int .i64 x.fLength, (.slice va1 vl1 vc1), (.slice va2 vl2 vc2), (.slice va3 vl3 vc3), (.slice va4 vl4 vc4), (.slice va5 vl5 vc5)] 30)) from (Below.refl _ _).alloc (Nat.le_refl _) _)
  have K0 := hide (Bk.born w 30 #[.int .i64 x.fLength, (.slice va1 vl1 vc1), (.slice va2 vl2 vc2), (.slice va3 vl3 vc3), (.slice va4 vl4 vc4), (.slice va5 vl5 vc5)])
  go_enter Tryz.func3, Tryz.ntmps3
  have HTB := hide ht; clear ht; have HGX := hide gx
  go_wp2_with fail
  refine (b_szSession x _ 1048576 _ (by omega) (by omega) gx (T.rds_below HX.out H0.out)).mono ?_; rintro e w1 ⟨m, rfl, hm0, hm1, hsx, hb⟩
  have H1 := hide (bthen H0.out H0.out.size hb); have K1 := hide (K0.out.below hb K0.out.lt)
  clear hb; have k0 := K1.out.cell; have l0 := K1.out.lt
  by_cases cm : m < 0
  · go_wp2
    go_ret
    exact ⟨rfl, H1.out⟩
  have sx := hsx (by omega)
  go_wp2_with fail
  refine (b_toSession x _ _ sx (T.rds_below HX.out H1.out)).mono ?_; rintro e w2 ⟨ds, rfl, hds, hb⟩
  have Du := hide hds
  have H2 := hide (bthen H1.out H1.out.size hb); have K2 := hide (K1.out.below hb K1.out.lt)
  clear hb k0 l0; have k0 := K2.out.cell; have l0 := K2.out.lt
  obtain ⟨u1, u2, u3, u4, u5, rfl, ur1, ur2, ur3, ur4, ur5⟩ := GSession.rd_open hds
  obtain ⟨ua1, ul1, uc1, rfl⟩ := T.rd_slice ur1; clear ur1
  obtain ⟨ua2, ul2, uc2, rfl⟩ := T.rd_slice ur2; clear ur2
  obtain ⟨ua3, ul3, uc3, rfl⟩ := T.rd_slice ur3; clear ur3
  obtain ⟨ua4, ul4, uc4, rfl⟩ := T.rd_slice ur4; clear ur4
  obtain ⟨ua5, ul5, uc5, rfl⟩ := T.rd_slice ur5; clear ur5
  go_wp2_with fail
  refine (c_sSessionText x _ _ HGX.out sx Du.out).mono ?_; rintro e w3 ⟨rfl, hb⟩
  have H3 := hide (bthen H2.out H2.out.size hb); have K3 := hide (K2.out.below hb K2.out.lt)
  clear hb k0 l0; have k0 := K3.out.cell; have l0 := K3.out.lt
  go_wp2_with fail
  refine (b_toSession x _ _ sx (T.rds_below HX.out H3.out)).mono ?_; rintro e w4 ⟨ds, rfl, hds, hb⟩
  have Dt := hide hds
  have H4 := hide (bthen H3.out H3.out.size hb); have K4 := hide (K3.out.below hb K3.out.lt)
  clear hb k0 l0; have k0 := K4.out.cell; have l0 := K4.out.lt
  obtain ⟨t1, t2, t3, t4, t5, rfl, tr1, tr2, tr3, tr4, tr5⟩ := GSession.rd_open hds
  obtain ⟨ta1, tl1, tc1, rfl⟩ := T.rd_slice tr1; clear tr1
  obtain ⟨ta2, tl2, tc2, rfl⟩ := T.rd_slice tr2; clear tr2
  obtain ⟨ta3, tl3, tc3, rfl⟩ := T.rd_slice tr3; clear tr3
  obtain ⟨ta4, tl4, tc4, rfl⟩ := T.rd_slice tr4; clear tr4
  obtain ⟨ta5, tl5, tc5, rfl⟩ := T.rd_slice tr5; clear tr5
  have HA := hide (show Below w4.heap.size w4 (w4.alloc (.cells #[.int .i64 x.fLength, (.slice ta1 tl1 tc1), (.slice ta2 tl2 tc2), (.slice ta3 tl3 tc3), (.slice ta4 tl4 tc4), (.slice ta5 tl5 tc5)] 39)) from (Below.refl _ _).alloc (Nat.le_refl _) _)
  have KX0 := hide (Bk.born w4 39 #[.int .i64 x.fLength, (.slice ta1 tl1 tc1), (.slice ta2 tl2 tc2), (.slice ta3 tl3 tc3), (.slice ta4 tl4 tc4), (.slice ta5 tl5 tc5)])
  have HTA := hide (HTB.out.below (bthen H4.out H4.out.size HA.out))
  go_wp2_with fail
  refine (c_iSessionText x _ _ HTA.out HGX.out sx (T.rds_below Dt.out HA.out)).mono ?_; rintro e w5 ⟨rfl, hb9⟩
  have hb := bthen HA.out HA.out.size hb9
  have DX := hide (T.rds_below Dt.out hb); have KX := hide (KX0.out.below hb9 KX0.out.lt); clear hb9
  have H5 := hide (bthen H4.out H4.out.size hb); have K5 := hide (K4.out.below hb K4.out.lt)
  clear hb k0 l0; have k0 := K5.out.cell; have l0 := K5.out.lt
  generalize textS x = ans at *
  have kx := KX.out.cell; have lx := KX.out.lt
  have hne : (ans.toList != ans.toList) = false := by simp
  go_wp2
  go_region_held3 (fun w' => (∀ i, w'.cell? ⟨w.heap.size, i, none⟩ = #[.int .i64 x.fLength, (.slice va1 vl1 vc1), (.slice va2 vl2 vc2), (.slice va3 vl3 vc3), (.slice va4 vl4 vc4), (.slice va5 vl5 vc5)][i]?) ∧ (∀ i, w'.cell? ⟨w4.heap.size, i, none⟩ = #[.int .i64 x.fLength, (.slice ta1 tl1 tc1), (.slice ta2 tl2 tc2), (.slice ta3 tl3 tc3), (.slice ta4 tl4 tc4), (.slice ta5 tl5 tc5)][i]?)) (first | exact ⟨K5.out.cell, KX.out.cell⟩ | exact ⟨(K5.out.below c6.out K5.out.lt).cell, (KX.out.below c6.out KX.out.lt).cell⟩ | exact ⟨(K5.out.below c5.out K5.out.lt).cell, (KX.out.below c5.out KX.out.lt).cell⟩) (first | (go_at_call 7; refine (b_toSession x _ _ sx (T.rds_below HX.out (by first | exact H5.out | exact H5.out.drew | exact below_drewN H5.out _))).mono ?_; rintro e wA ⟨fs, rfl, hfs, hb5⟩; have c5 := hide (show Below w5.heap.size w5 wA from (by first | exact hb5 | exact undrew hb5 | exact undrewN hb5)); have F5 := hide hfs) | (go_at_call 9; refine (b_eqSession x _ _ _ (T.rds_below DX.out (by first | exact c5.out | exact c5.out.drew | exact below_drewN c5.out _)) (T.rds_below F5.out (by first | exact Below.refl _ _ | exact (Below.refl _ _).drew | exact below_drewN (Below.refl _ _) _))).mono ?_; rintro e wB ⟨rfl, hb6⟩; have c6 := hide (bthen c5.out c5.out.size (show Below wA.heap.size wA wB from (by first | exact hb6 | exact undrew hb6 | exact undrewN hb6)))))
  have H9 := hide (bthen H5.out H5.out.size c6.out)
  go_wp2
  go_ret
  exact ⟨rfl, H9.out⟩
end Go.Proofs.YteiflbhcehajkaaGreatDoor
end
section
namespace Go.Proofs.YteiflbhcehajkaaGreatDoor
open Go.RowKit Go.ChangeShapes Go.WideShapes
theorem tb_of_laidS {W : World} (h : laidMetH Tryz.prog Rows.fnExactSessionTextRow.laid W) : TB W := by
  rw [MakeChecks.laidMetH_plain _ _ _ (by kernel_rfl)] at h
  obtain ⟨ps, ⟨g0, t0, cs0, f0, p0, q0, hg0, ht0, hv0, hd0, ⟨g1, t1, cs1, f1, p1, q1, hg1, ht1, hv1, hd1, ⟨g2, t2, cs2, f2, p2, q2, hg2, ht2, hv2, hd2, _, _⟩, _⟩, _⟩, _, _⟩ := h
  obtain rfl := Option.some.inj ((show Tryz.prog.globalNamed "internal/strconv.uint64pow10" = some 0 by kernel_rfl).symm.trans hg2)
  obtain rfl := Option.some.inj ((show (Tryz.prog.globals[(0 : Nat)]?).map (·.type) = some 307 by kernel_rfl).symm.trans ht2)
  unfold TB Lib.TabIs
  rw [hv2, ← Lib.cells_of_tab (k := .u64) (zs := Lib.pow10Tab) Tryz.underlying307 Tryz.underlying279 (by kernel_rfl) (by kernel_rfl) hd2]
end Go.Proofs.YteiflbhcehajkaaGreatDoor
end
