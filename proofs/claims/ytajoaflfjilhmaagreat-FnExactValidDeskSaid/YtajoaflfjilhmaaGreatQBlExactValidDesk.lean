/- The law ValidDesk. -/
import Derived.Test.YtajoaflfjilhmaaGreatQAiExactValidDesk
import Derived.Test.YtajoaflfjilhmaaGreatQBkExactValidDesk
import Derived.Deep.RegionHeld3
set_option linter.unusedVariables false
set_option linter.unusedSimpArgs false
namespace Go.Proofs.YtajoaflfjilhmaaGreat
open Go.RowKit
theorem b_szDesk (x : GDesk) (cs : List Value) (n : Int) (w : World) (hn : 0 ≤ n) (hm : n ≤ 1048576) (hg : x.good) (h : T.rds w x.fs cs) : Calls Tryz.prog 19 #[.agg cs.toArray, .int .i64 n] w fun e w' => ∃ m : Int, e = .returned (.int .i64 m) ∧ -1 ≤ m ∧ m ≤ n ∧ (0 ≤ m → x.small) ∧ Below w.heap.size w w' := by
  obtain ⟨v0, v1, v6, v7, v9, v10, v11, v12, v13, rfl, h0, h1, h6, h7, h9, h10, h11, h12, h13⟩ := GDesk.rd_open h
  exact c_szDesk x _ _ _ _ _ _ _ _ _ n w hn hm hg h0 h1 h6 h7 h9 h10 h11 h12 h13
set_option maxHeartbeats 4000000 in
set_option maxRecDepth 100000 in
theorem law_ValidDesk (x : GDesk) (cs : List Value) (w : World) (hx : T.rds w x.fs cs) (gx : x.good) : Calls Tryz.prog 5 #[.agg cs.toArray] w fun e w' => e = .returned (.bool true) ∧ Below w.heap.size w w' := by
  have HX := hide hx
  obtain ⟨v0, v1, v6, v7, v9, v10, v11, v12, v13, rfl, vr0, vr1, vr6, vr7, vr9, vr10, vr11, vr12, vr13⟩ := GDesk.rd_open hx
  obtain ⟨va0, vl0, vc0, rfl⟩ := T.rd_slice vr0; clear vr0
  obtain ⟨va1, vl1, vc1, rfl⟩ := T.rd_slice vr1; clear vr1
  obtain ⟨va6, vl6, vc6, rfl⟩ := T.rd_slice vr6; clear vr6
  obtain ⟨va7, vl7, vc7, rfl⟩ := T.rd_slice vr7; clear vr7
  obtain ⟨va9, vl9, vc9, rfl⟩ := T.rd_slice vr9; clear vr9
  obtain ⟨va10, vl10, vc10, rfl⟩ := T.rd_slice vr10; clear vr10
  obtain ⟨va11, vl11, vc11, rfl⟩ := T.rd_slice vr11; clear vr11
  obtain ⟨va12, vl12, vc12, rfl⟩ := T.rd_slice vr12; clear vr12
  obtain ⟨va13, vl13, vc13, rfl⟩ := T.rd_slice vr13; clear vr13
  clear hx
  have H0 := hide (show Below w.heap.size w (w.alloc (.cells #[(.slice va0 vl0 vc0), (.slice va1 vl1 vc1), .int .i64 x.fTuning.fBase.fNum, .int .i64 x.fTuning.fBase.fDen, .int .i64 x.fTuning.fOctave.fNum, .int .i64 x.fTuning.fOctave.fDen, (.slice va6 vl6 vc6), (.slice va7 vl7 vc7), .int .i64 x.fSession.fLength, (.slice va9 vl9 vc9), (.slice va10 vl10 vc10), (.slice va11 vl11 vc11), (.slice va12 vl12 vc12), (.slice va13 vl13 vc13)] 75)) from (Below.refl _ _).alloc (Nat.le_refl _) _)
  have K0 := hide (Bk.born w 75 #[(.slice va0 vl0 vc0), (.slice va1 vl1 vc1), .int .i64 x.fTuning.fBase.fNum, .int .i64 x.fTuning.fBase.fDen, .int .i64 x.fTuning.fOctave.fNum, .int .i64 x.fTuning.fOctave.fDen, (.slice va6 vl6 vc6), (.slice va7 vl7 vc7), .int .i64 x.fSession.fLength, (.slice va9 vl9 vc9), (.slice va10 vl10 vc10), (.slice va11 vl11 vc11), (.slice va12 vl12 vc12), (.slice va13 vl13 vc13)])
  go_enter Tryz.func5, Tryz.ntmps5
  go_wp2_with fail
  refine (b_szDesk x _ 1048576 _ (by omega) (by omega) gx (T.rds_below HX.out H0.out)).mono ?_; rintro e w1 ⟨m, rfl, hm0, hm1, hsx, hb⟩
  have H1 := hide (bthen H0.out H0.out.size hb); have K1 := hide (K0.out.below hb K0.out.lt)
  clear hb; have k0 := K1.out.cell; have l0 := K1.out.lt
  by_cases cm : m < 0
  · go_wp2
    go_ret
    exact ⟨rfl, H1.out⟩
  have sx := hsx (by omega)
  go_wp2_with fail
  refine (b_toDesk x _ _ sx (T.rds_below HX.out H1.out)).mono ?_; rintro e w2 ⟨ds, rfl, hds, hb⟩
  have Du := hide hds
  have H2 := hide (bthen H1.out H1.out.size hb); have K2 := hide (K1.out.below hb K1.out.lt)
  clear hb k0 l0; have k0 := K2.out.cell; have l0 := K2.out.lt
  obtain ⟨u0, u1, u6, u7, u9, u10, u11, u12, u13, rfl, ur0, ur1, ur6, ur7, ur9, ur10, ur11, ur12, ur13⟩ := GDesk.rd_open hds
  obtain ⟨ua0, ul0, uc0, rfl⟩ := T.rd_slice ur0; clear ur0
  obtain ⟨ua1, ul1, uc1, rfl⟩ := T.rd_slice ur1; clear ur1
  obtain ⟨ua6, ul6, uc6, rfl⟩ := T.rd_slice ur6; clear ur6
  obtain ⟨ua7, ul7, uc7, rfl⟩ := T.rd_slice ur7; clear ur7
  obtain ⟨ua9, ul9, uc9, rfl⟩ := T.rd_slice ur9; clear ur9
  obtain ⟨ua10, ul10, uc10, rfl⟩ := T.rd_slice ur10; clear ur10
  obtain ⟨ua11, ul11, uc11, rfl⟩ := T.rd_slice ur11; clear ur11
  obtain ⟨ua12, ul12, uc12, rfl⟩ := T.rd_slice ur12; clear ur12
  obtain ⟨ua13, ul13, uc13, rfl⟩ := T.rd_slice ur13; clear ur13
  go_wp2_with fail
  refine (c_sValidDesk x _ _ sx Du.out).mono ?_; rintro e w3 ⟨rfl, hb⟩
  have H3 := hide (bthen H2.out H2.out.size hb); have K3 := hide (K2.out.below hb K2.out.lt)
  clear hb k0 l0; have k0 := K3.out.cell; have l0 := K3.out.lt
  go_wp2_with fail
  refine (b_toDesk x _ _ sx (T.rds_below HX.out H3.out)).mono ?_; rintro e w4 ⟨ds, rfl, hds, hb⟩
  have Dt := hide hds
  have H4 := hide (bthen H3.out H3.out.size hb); have K4 := hide (K3.out.below hb K3.out.lt)
  clear hb k0 l0; have k0 := K4.out.cell; have l0 := K4.out.lt
  obtain ⟨t0, t1, t6, t7, t9, t10, t11, t12, t13, rfl, tr0, tr1, tr6, tr7, tr9, tr10, tr11, tr12, tr13⟩ := GDesk.rd_open hds
  obtain ⟨ta0, tl0, tc0, rfl⟩ := T.rd_slice tr0; clear tr0
  obtain ⟨ta1, tl1, tc1, rfl⟩ := T.rd_slice tr1; clear tr1
  obtain ⟨ta6, tl6, tc6, rfl⟩ := T.rd_slice tr6; clear tr6
  obtain ⟨ta7, tl7, tc7, rfl⟩ := T.rd_slice tr7; clear tr7
  obtain ⟨ta9, tl9, tc9, rfl⟩ := T.rd_slice tr9; clear tr9
  obtain ⟨ta10, tl10, tc10, rfl⟩ := T.rd_slice tr10; clear tr10
  obtain ⟨ta11, tl11, tc11, rfl⟩ := T.rd_slice tr11; clear tr11
  obtain ⟨ta12, tl12, tc12, rfl⟩ := T.rd_slice tr12; clear tr12
  obtain ⟨ta13, tl13, tc13, rfl⟩ := T.rd_slice tr13; clear tr13
  have HA := hide (show Below w4.heap.size w4 (w4.alloc (.cells #[(.slice ta0 tl0 tc0), (.slice ta1 tl1 tc1), .int .i64 x.fTuning.fBase.fNum, .int .i64 x.fTuning.fBase.fDen, .int .i64 x.fTuning.fOctave.fNum, .int .i64 x.fTuning.fOctave.fDen, (.slice ta6 tl6 tc6), (.slice ta7 tl7 tc7), .int .i64 x.fSession.fLength, (.slice ta9 tl9 tc9), (.slice ta10 tl10 tc10), (.slice ta11 tl11 tc11), (.slice ta12 tl12 tc12), (.slice ta13 tl13 tc13)] 89)) from (Below.refl _ _).alloc (Nat.le_refl _) _)
  have KX0 := hide (Bk.born w4 89 #[(.slice ta0 tl0 tc0), (.slice ta1 tl1 tc1), .int .i64 x.fTuning.fBase.fNum, .int .i64 x.fTuning.fBase.fDen, .int .i64 x.fTuning.fOctave.fNum, .int .i64 x.fTuning.fOctave.fDen, (.slice ta6 tl6 tc6), (.slice ta7 tl7 tc7), .int .i64 x.fSession.fLength, (.slice ta9 tl9 tc9), (.slice ta10 tl10 tc10), (.slice ta11 tl11 tc11), (.slice ta12 tl12 tc12), (.slice ta13 tl13 tc13)])
  go_wp2_with fail
  refine (c_iValidDesk x _ _ sx (T.rds_below Dt.out HA.out)).mono ?_; rintro e w5 ⟨rfl, hb9⟩
  have hb := bthen HA.out HA.out.size hb9
  have DX := hide (T.rds_below Dt.out hb); have KX := hide (KX0.out.below hb9 KX0.out.lt); clear hb9
  have H5 := hide (bthen H4.out H4.out.size hb); have K5 := hide (K4.out.below hb K4.out.lt)
  clear hb k0 l0; have k0 := K5.out.cell; have l0 := K5.out.lt
  generalize tf (DeskOk x) = ans at *
  have kx := KX.out.cell; have lx := KX.out.lt
  have hne : (ans != ans) = false := by simp
  go_wp2
  go_region_held3 (fun w' => (∀ i, w'.cell? ⟨w.heap.size, i, none⟩ = #[(.slice va0 vl0 vc0), (.slice va1 vl1 vc1), .int .i64 x.fTuning.fBase.fNum, .int .i64 x.fTuning.fBase.fDen, .int .i64 x.fTuning.fOctave.fNum, .int .i64 x.fTuning.fOctave.fDen, (.slice va6 vl6 vc6), (.slice va7 vl7 vc7), .int .i64 x.fSession.fLength, (.slice va9 vl9 vc9), (.slice va10 vl10 vc10), (.slice va11 vl11 vc11), (.slice va12 vl12 vc12), (.slice va13 vl13 vc13)][i]?) ∧ (∀ i, w'.cell? ⟨w4.heap.size, i, none⟩ = #[(.slice ta0 tl0 tc0), (.slice ta1 tl1 tc1), .int .i64 x.fTuning.fBase.fNum, .int .i64 x.fTuning.fBase.fDen, .int .i64 x.fTuning.fOctave.fNum, .int .i64 x.fTuning.fOctave.fDen, (.slice ta6 tl6 tc6), (.slice ta7 tl7 tc7), .int .i64 x.fSession.fLength, (.slice ta9 tl9 tc9), (.slice ta10 tl10 tc10), (.slice ta11 tl11 tc11), (.slice ta12 tl12 tc12), (.slice ta13 tl13 tc13)][i]?)) (first | exact ⟨K5.out.cell, KX.out.cell⟩ | exact ⟨(K5.out.below c6.out K5.out.lt).cell, (KX.out.below c6.out KX.out.lt).cell⟩ | exact ⟨(K5.out.below c5.out K5.out.lt).cell, (KX.out.below c5.out KX.out.lt).cell⟩) (first | (go_at_call 21; refine (b_toDesk x _ _ sx (T.rds_below HX.out (by first | exact H5.out | exact H5.out.drew | exact below_drewN H5.out _))).mono ?_; rintro e wA ⟨fs, rfl, hfs, hb5⟩; have c5 := hide (show Below w5.heap.size w5 wA from (by first | exact hb5 | exact undrew hb5 | exact undrewN hb5)); have F5 := hide hfs) | (go_at_call 23; refine (b_eqDesk x _ _ _ (T.rds_below DX.out (by first | exact c5.out | exact c5.out.drew | exact below_drewN c5.out _)) (T.rds_below F5.out (by first | exact Below.refl _ _ | exact (Below.refl _ _).drew | exact below_drewN (Below.refl _ _) _))).mono ?_; rintro e wB ⟨rfl, hb6⟩; have c6 := hide (bthen c5.out c5.out.size (show Below wA.heap.size wA wB from (by first | exact hb6 | exact undrew hb6 | exact undrewN hb6)))))
  have H9 := hide (bthen H5.out H5.out.size c6.out)
  go_wp2
  go_ret
  exact ⟨rfl, H9.out⟩
end Go.Proofs.YtajoaflfjilhmaaGreat
