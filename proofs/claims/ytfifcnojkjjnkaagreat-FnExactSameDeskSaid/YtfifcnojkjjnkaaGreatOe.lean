/- The law SameDesk. -/
import Derived.Test.YtfifcnojkjjnkaaGreatNz
import Derived.Test.YtfifcnojkjjnkaaGreatNt
import Derived.Test.YtfifcnojkjjnkaaGreatNw
import Derived.Test.YtfifcnojkjjnkaaGreatHd
import Derived.Deep.RegionHeld3
namespace Go.Proofs.YtfifcnojkjjnkaaGreat
open Go.RowKit
theorem b_sSameDesk (x y : GDesk) (cs ds : List Value) (w : World) (h : T.rds w x.fs cs) (g : T.rds w y.fs ds) : Calls Tryz.prog 12 #[.agg cs.toArray, .agg ds.toArray] w fun e w' => e = .returned (.bool (decide (x = y))) ∧ Below w.heap.size w w' := by
  obtain ⟨v0, v1, v6, v7, v9, v10, v11, v12, v13, rfl, h0, h1, h6, h7, h9, h10, h11, h12, h13⟩ := GDesk.rd_open h
  obtain ⟨u0, u1, u6, u7, u9, u10, u11, u12, u13, rfl, k0, k1, k6, k7, k9, k10, k11, k12, k13⟩ := GDesk.rd_open g
  exact c_sSameDesk x y _ _ _ _ _ _ _ _ _ _ _ _ _ _ _ _ _ _ w h0 h1 h6 h7 h9 h10 h11 h12 h13 k0 k1 k6 k7 k9 k10 k11 k12 k13
theorem b_iSameDesk (x y : GDesk) (cs ds : List Value) (w : World) (h : T.rds w x.fs cs) (g : T.rds w y.fs ds) : Calls Tryz.prog 14 #[.agg cs.toArray, .agg ds.toArray] w fun e w' => e = .returned (.bool (decide (x = y))) ∧ Below w.heap.size w w' := by
  obtain ⟨v0, v1, v6, v7, v9, v10, v11, v12, v13, rfl, h0, h1, h6, h7, h9, h10, h11, h12, h13⟩ := GDesk.rd_open h
  obtain ⟨u0, u1, u6, u7, u9, u10, u11, u12, u13, rfl, k0, k1, k6, k7, k9, k10, k11, k12, k13⟩ := GDesk.rd_open g
  exact c_iSameDesk x y _ _ _ _ _ _ _ _ _ _ _ _ _ _ _ _ _ _ w h0 h1 h6 h7 h9 h10 h11 h12 h13 k0 k1 k6 k7 k9 k10 k11 k12 k13
theorem b_szDesk (x : GDesk) (cs : List Value) (n : Int) (w : World) (hn : 0 ≤ n) (hm : n ≤ 1048576) (hg : x.good) (h : T.rds w x.fs cs) : Calls Tryz.prog 11 #[.agg cs.toArray, .int .i64 n] w fun e w' => ∃ m : Int, e = .returned (.int .i64 m) ∧ -1 ≤ m ∧ m ≤ n ∧ (0 ≤ m → x.small) ∧ Below w.heap.size w w' := by
  obtain ⟨v0, v1, v6, v7, v9, v10, v11, v12, v13, rfl, h0, h1, h6, h7, h9, h10, h11, h12, h13⟩ := GDesk.rd_open h
  exact c_szDesk x _ _ _ _ _ _ _ _ _ n w hn hm hg h0 h1 h6 h7 h9 h10 h11 h12 h13
set_option maxHeartbeats 4000000 in
set_option maxRecDepth 100000 in
theorem law_SameDesk (x y : GDesk) (cs ds : List Value) (w : World) (hx : T.rds w x.fs cs) (gx : x.good) (hy : T.rds w y.fs ds) (gy : y.good) : Calls Tryz.prog 3 #[.agg cs.toArray, .agg ds.toArray] w fun e w' => e = .returned (.bool true) ∧ Below w.heap.size w w' := by
  have HX := hide hx; have HY := hide hy
  obtain ⟨v0, v1, v6, v7, v9, v10, v11, v12, v13, rfl, vr0, vr1, vr6, vr7, vr9, vr10, vr11, vr12, vr13⟩ := GDesk.rd_open hx
  obtain ⟨va0, vl0, vc0, rfl⟩ := T.rd_slice vr0; clear vr0
  obtain ⟨va1, vl1, vc1, rfl⟩ := T.rd_slice vr1; clear vr1
  obtain ⟨va6, vl6, vc6, rfl⟩ := T.rd_slice vr6; clear vr6
  obtain ⟨va7, vl7, vc7, rfl⟩ := T.rd_slice vr7; clear vr7
  obtain ⟨va9, vl9, vc9, rfl⟩ := T.rd_slice vr9; clear vr9
  obtain ⟨va10, vl10, vc10, rfl⟩ := T.rd_slice vr10; clear vr10
  obtain ⟨va11, vl11, vc11, rfl⟩ := T.rd_slice vr11; clear vr11
  obtain ⟨va12, vl12, vc12, rfl⟩ := T.rd_slice vr12; clear vr12
  obtain ⟨va13, vl13, vc13, rfl⟩ := T.rd_slice vr13; clear vr13
  obtain ⟨u0, u1, u6, u7, u9, u10, u11, u12, u13, rfl, ur0, ur1, ur6, ur7, ur9, ur10, ur11, ur12, ur13⟩ := GDesk.rd_open hy
  obtain ⟨ua0, ul0, uc0, rfl⟩ := T.rd_slice ur0; clear ur0
  obtain ⟨ua1, ul1, uc1, rfl⟩ := T.rd_slice ur1; clear ur1
  obtain ⟨ua6, ul6, uc6, rfl⟩ := T.rd_slice ur6; clear ur6
  obtain ⟨ua7, ul7, uc7, rfl⟩ := T.rd_slice ur7; clear ur7
  obtain ⟨ua9, ul9, uc9, rfl⟩ := T.rd_slice ur9; clear ur9
  obtain ⟨ua10, ul10, uc10, rfl⟩ := T.rd_slice ur10; clear ur10
  obtain ⟨ua11, ul11, uc11, rfl⟩ := T.rd_slice ur11; clear ur11
  obtain ⟨ua12, ul12, uc12, rfl⟩ := T.rd_slice ur12; clear ur12
  obtain ⟨ua13, ul13, uc13, rfl⟩ := T.rd_slice ur13; clear ur13
  clear hx hy
  have H0 := hide (show Below w.heap.size w ((w.alloc (.cells #[(.slice va0 vl0 vc0), (.slice va1 vl1 vc1), .int .i64 x.fTuning.fBase.fNum, .int .i64 x.fTuning.fBase.fDen, .int .i64 x.fTuning.fOctave.fNum, .int .i64 x.fTuning.fOctave.fDen, (.slice va6 vl6 vc6), (.slice va7 vl7 vc7), .int .i64 x.fSession.fLength, (.slice va9 vl9 vc9), (.slice va10 vl10 vc10), (.slice va11 vl11 vc11), (.slice va12 vl12 vc12), (.slice va13 vl13 vc13)] 43)).alloc (.cells #[(.slice ua0 ul0 uc0), (.slice ua1 ul1 uc1), .int .i64 y.fTuning.fBase.fNum, .int .i64 y.fTuning.fBase.fDen, .int .i64 y.fTuning.fOctave.fNum, .int .i64 y.fTuning.fOctave.fDen, (.slice ua6 ul6 uc6), (.slice ua7 ul7 uc7), .int .i64 y.fSession.fLength, (.slice ua9 ul9 uc9), (.slice ua10 ul10 uc10), (.slice ua11 ul11 uc11), (.slice ua12 ul12 uc12), (.slice ua13 ul13 uc13)] 43)) from ((Below.refl _ _).alloc (Nat.le_refl _) _).alloc (by simp) _)
  have KA := hide ((Bk.born w 43 #[(.slice va0 vl0 vc0), (.slice va1 vl1 vc1), .int .i64 x.fTuning.fBase.fNum, .int .i64 x.fTuning.fBase.fDen, .int .i64 x.fTuning.fOctave.fNum, .int .i64 x.fTuning.fOctave.fDen, (.slice va6 vl6 vc6), (.slice va7 vl7 vc7), .int .i64 x.fSession.fLength, (.slice va9 vl9 vc9), (.slice va10 vl10 vc10), (.slice va11 vl11 vc11), (.slice va12 vl12 vc12), (.slice va13 vl13 vc13)]).alloc (.cells #[(.slice ua0 ul0 uc0), (.slice ua1 ul1 uc1), .int .i64 y.fTuning.fBase.fNum, .int .i64 y.fTuning.fBase.fDen, .int .i64 y.fTuning.fOctave.fNum, .int .i64 y.fTuning.fOctave.fDen, (.slice ua6 ul6 uc6), (.slice ua7 ul7 uc7), .int .i64 y.fSession.fLength, (.slice ua9 ul9 uc9), (.slice ua10 ul10 uc10), (.slice ua11 ul11 uc11), (.slice ua12 ul12 uc12), (.slice ua13 ul13 uc13)] 43))
  have KB := hide (Bk.born1' w (.cells #[(.slice va0 vl0 vc0), (.slice va1 vl1 vc1), .int .i64 x.fTuning.fBase.fNum, .int .i64 x.fTuning.fBase.fDen, .int .i64 x.fTuning.fOctave.fNum, .int .i64 x.fTuning.fOctave.fDen, (.slice va6 vl6 vc6), (.slice va7 vl7 vc7), .int .i64 x.fSession.fLength, (.slice va9 vl9 vc9), (.slice va10 vl10 vc10), (.slice va11 vl11 vc11), (.slice va12 vl12 vc12), (.slice va13 vl13 vc13)] 43) 43 #[(.slice ua0 ul0 uc0), (.slice ua1 ul1 uc1), .int .i64 y.fTuning.fBase.fNum, .int .i64 y.fTuning.fBase.fDen, .int .i64 y.fTuning.fOctave.fNum, .int .i64 y.fTuning.fOctave.fDen, (.slice ua6 ul6 uc6), (.slice ua7 ul7 uc7), .int .i64 y.fSession.fLength, (.slice ua9 ul9 uc9), (.slice ua10 ul10 uc10), (.slice ua11 ul11 uc11), (.slice ua12 ul12 uc12), (.slice ua13 ul13 uc13)])
  go_enter Tryz.func3, Tryz.ntmps3
  go_wp2_with fail
  refine (b_szDesk x _ 1048576 _ (by omega) (by omega) gx (T.rds_below HX.out H0.out)).mono ?_; rintro e w1 ⟨m, rfl, hm0, hm1, hsx, hb⟩
  have H1 := hide (bthen H0.out H0.out.size hb)
  replace KA := hide (KA.out.below hb KA.out.lt)
  replace KB := hide (KB.out.below hb KB.out.lt)
  clear hb; have ka := KA.out.cell; have kb := KB.out.cell; have la := KA.out.lt; have lb := KB.out.lt
  by_cases cm : m < 0
  · go_wp2
    go_ret
    exact ⟨rfl, H1.out⟩
  have sx := hsx (by omega); clear hsx
  go_wp2_with fail
  refine (b_szDesk y _ m _ (by omega) (by omega) gy (T.rds_below HY.out H1.out)).mono ?_; rintro e w2 ⟨n, rfl, hn0, hn1, hsy, hb⟩
  have H2 := hide (bthen H1.out H1.out.size hb)
  replace KA := hide (KA.out.below hb KA.out.lt)
  replace KB := hide (KB.out.below hb KB.out.lt)
  clear hb ka kb la lb; have ka := KA.out.cell; have kb := KB.out.cell; have la := KA.out.lt; have lb := KB.out.lt
  by_cases cn : n < 0
  · go_wp2
    go_ret
    exact ⟨rfl, H2.out⟩
  have sy := hsy (by omega); clear hsy
  go_wp2_with fail
  go_region_held3 (fun w' => (∀ i, w'.cell? ⟨w.heap.size, i, none⟩ = #[(.slice va0 vl0 vc0), (.slice va1 vl1 vc1), .int .i64 x.fTuning.fBase.fNum, .int .i64 x.fTuning.fBase.fDen, .int .i64 x.fTuning.fOctave.fNum, .int .i64 x.fTuning.fOctave.fDen, (.slice va6 vl6 vc6), (.slice va7 vl7 vc7), .int .i64 x.fSession.fLength, (.slice va9 vl9 vc9), (.slice va10 vl10 vc10), (.slice va11 vl11 vc11), (.slice va12 vl12 vc12), (.slice va13 vl13 vc13)][i]?) ∧ (∀ i, w'.cell? ⟨w.heap.size + 1, i, none⟩ = #[(.slice ua0 ul0 uc0), (.slice ua1 ul1 uc1), .int .i64 y.fTuning.fBase.fNum, .int .i64 y.fTuning.fBase.fDen, .int .i64 y.fTuning.fOctave.fNum, .int .i64 y.fTuning.fOctave.fDen, (.slice ua6 ul6 uc6), (.slice ua7 ul7 uc7), .int .i64 y.fSession.fLength, (.slice ua9 ul9 uc9), (.slice ua10 ul10 uc10), (.slice ua11 ul11 uc11), (.slice ua12 ul12 uc12), (.slice ua13 ul13 uc13)][i]?)) (first | exact ⟨KA.out.cell, KB.out.cell⟩ | exact ⟨(KA.out.below c7.out KA.out.lt).cell, (KB.out.below c7.out KB.out.lt).cell⟩ | exact ⟨(KA.out.below c6.out KA.out.lt).cell, (KB.out.below c6.out KB.out.lt).cell⟩ | exact ⟨(KA.out.below c5.out KA.out.lt).cell, (KB.out.below c5.out KB.out.lt).cell⟩) (first | (go_at_call_of 13 (Value.agg #[(.slice va0 vl0 vc0), (.slice va1 vl1 vc1), .int .i64 x.fTuning.fBase.fNum, .int .i64 x.fTuning.fBase.fDen, .int .i64 x.fTuning.fOctave.fNum, .int .i64 x.fTuning.fOctave.fDen, (.slice va6 vl6 vc6), (.slice va7 vl7 vc7), .int .i64 x.fSession.fLength, (.slice va9 vl9 vc9), (.slice va10 vl10 vc10), (.slice va11 vl11 vc11), (.slice va12 vl12 vc12), (.slice va13 vl13 vc13)]); refine (b_toDesk x _ _ sx (T.rds_below HX.out (by first | exact H2.out | exact H2.out.drew | exact below_drewN H2.out _))).mono ?_; rintro e wA ⟨fs, rfl, hfs, hb5⟩; have c5 := hide (show Below w2.heap.size w2 wA from (by first | exact hb5 | exact undrew hb5 | exact undrewN hb5)); have F5 := hide hfs) | (go_at_call_of 13 (Value.agg #[(.slice ua0 ul0 uc0), (.slice ua1 ul1 uc1), .int .i64 y.fTuning.fBase.fNum, .int .i64 y.fTuning.fBase.fDen, .int .i64 y.fTuning.fOctave.fNum, .int .i64 y.fTuning.fOctave.fDen, (.slice ua6 ul6 uc6), (.slice ua7 ul7 uc7), .int .i64 y.fSession.fLength, (.slice ua9 ul9 uc9), (.slice ua10 ul10 uc10), (.slice ua11 ul11 uc11), (.slice ua12 ul12 uc12), (.slice ua13 ul13 uc13)]); refine (b_toDesk y _ _ sy (T.rds_below HY.out (bthen H2.out H2.out.size (by first | exact c5.out | exact c5.out.drew | exact below_drewN c5.out _)))).mono ?_; rintro e wB ⟨gs, rfl, hgs, hb6⟩; have d6 := hide (show Below wA.heap.size wA wB from (by first | exact hb6 | exact undrew hb6 | exact undrewN hb6)); have c6 := hide (bthen c5.out c5.out.size d6.out); have F6 := hide hgs) | (go_at_call 12; refine (b_sSameDesk x y _ _ _ (T.rds_below F5.out (by first | exact d6.out | exact d6.out.drew | exact below_drewN d6.out _)) (T.rds_below F6.out (by first | exact Below.refl _ _ | exact (Below.refl _ _).drew | exact below_drewN (Below.refl _ _) _))).mono ?_; rintro e wC ⟨rfl, hb7⟩; have d7 := hide (show Below wB.heap.size wB wC from (by first | exact hb7 | exact undrew hb7 | exact undrewN hb7)); have c7 := hide (bthen c6.out c6.out.size d7.out)))
  have hb : Below w2.heap.size w2 wC := c7.out
  generalize wC = w3 at *
  clear c5 c6 c7 d6 d7 F5 F6
  have H3 := hide (bthen H2.out H2.out.size hb)
  replace KA := hide (KA.out.below hb KA.out.lt)
  replace KB := hide (KB.out.below hb KB.out.lt)
  clear hb ka kb la lb; have ka := KA.out.cell; have kb := KB.out.cell; have la := KA.out.lt; have lb := KB.out.lt
  go_wp2_with fail
  refine (b_toDesk x _ _ sx (T.rds_below HX.out H3.out)).mono ?_; rintro e w4 ⟨es, rfl, hes, hb⟩
  have DX := hide hes
  have H4 := hide (bthen H3.out H3.out.size hb)
  replace KA := hide (KA.out.below hb KA.out.lt)
  replace KB := hide (KB.out.below hb KB.out.lt)
  clear hb ka kb la lb; have ka := KA.out.cell; have kb := KB.out.cell; have la := KA.out.lt; have lb := KB.out.lt
  obtain ⟨p0, p1, p6, p7, p9, p10, p11, p12, p13, rfl, pr0, pr1, pr6, pr7, pr9, pr10, pr11, pr12, pr13⟩ := GDesk.rd_open hes
  obtain ⟨pa0, pl0, pc0, rfl⟩ := T.rd_slice pr0; clear pr0
  obtain ⟨pa1, pl1, pc1, rfl⟩ := T.rd_slice pr1; clear pr1
  obtain ⟨pa6, pl6, pc6, rfl⟩ := T.rd_slice pr6; clear pr6
  obtain ⟨pa7, pl7, pc7, rfl⟩ := T.rd_slice pr7; clear pr7
  obtain ⟨pa9, pl9, pc9, rfl⟩ := T.rd_slice pr9; clear pr9
  obtain ⟨pa10, pl10, pc10, rfl⟩ := T.rd_slice pr10; clear pr10
  obtain ⟨pa11, pl11, pc11, rfl⟩ := T.rd_slice pr11; clear pr11
  obtain ⟨pa12, pl12, pc12, rfl⟩ := T.rd_slice pr12; clear pr12
  obtain ⟨pa13, pl13, pc13, rfl⟩ := T.rd_slice pr13; clear pr13
  have HAX := hide (show Below w4.heap.size w4 (w4.alloc (.cells #[(.slice pa0 pl0 pc0), (.slice pa1 pl1 pc1), .int .i64 x.fTuning.fBase.fNum, .int .i64 x.fTuning.fBase.fDen, .int .i64 x.fTuning.fOctave.fNum, .int .i64 x.fTuning.fOctave.fDen, (.slice pa6 pl6 pc6), (.slice pa7 pl7 pc7), .int .i64 x.fSession.fLength, (.slice pa9 pl9 pc9), (.slice pa10 pl10 pc10), (.slice pa11 pl11 pc11), (.slice pa12 pl12 pc12), (.slice pa13 pl13 pc13)] 64)) from (Below.refl _ _).alloc (Nat.le_refl _) _)
  have KX0 := hide (Bk.born w4 64 #[(.slice pa0 pl0 pc0), (.slice pa1 pl1 pc1), .int .i64 x.fTuning.fBase.fNum, .int .i64 x.fTuning.fBase.fDen, .int .i64 x.fTuning.fOctave.fNum, .int .i64 x.fTuning.fOctave.fDen, (.slice pa6 pl6 pc6), (.slice pa7 pl7 pc7), .int .i64 x.fSession.fLength, (.slice pa9 pl9 pc9), (.slice pa10 pl10 pc10), (.slice pa11 pl11 pc11), (.slice pa12 pl12 pc12), (.slice pa13 pl13 pc13)])
  go_wp2_with fail
  refine (b_toDesk y _ _ sy (T.rds_below HY.out (bthen H4.out H4.out.size HAX.out))).mono ?_; rintro e w5 ⟨es, rfl, hes, hb9⟩
  have hb := bthen HAX.out HAX.out.size hb9
  have DY := hide hes; replace DX := hide (T.rds_below DX.out hb); have KX := hide (KX0.out.below hb9 KX0.out.lt); clear hb9 KX0 HAX
  have H5 := hide (bthen H4.out H4.out.size hb)
  replace KA := hide (KA.out.below hb KA.out.lt)
  replace KB := hide (KB.out.below hb KB.out.lt)
  clear hb ka kb la lb; have ka := KA.out.cell; have kb := KB.out.cell; have la := KA.out.lt; have lb := KB.out.lt
  obtain ⟨q0, q1, q6, q7, q9, q10, q11, q12, q13, rfl, qr0, qr1, qr6, qr7, qr9, qr10, qr11, qr12, qr13⟩ := GDesk.rd_open hes
  obtain ⟨qa0, ql0, qc0, rfl⟩ := T.rd_slice qr0; clear qr0
  obtain ⟨qa1, ql1, qc1, rfl⟩ := T.rd_slice qr1; clear qr1
  obtain ⟨qa6, ql6, qc6, rfl⟩ := T.rd_slice qr6; clear qr6
  obtain ⟨qa7, ql7, qc7, rfl⟩ := T.rd_slice qr7; clear qr7
  obtain ⟨qa9, ql9, qc9, rfl⟩ := T.rd_slice qr9; clear qr9
  obtain ⟨qa10, ql10, qc10, rfl⟩ := T.rd_slice qr10; clear qr10
  obtain ⟨qa11, ql11, qc11, rfl⟩ := T.rd_slice qr11; clear qr11
  obtain ⟨qa12, ql12, qc12, rfl⟩ := T.rd_slice qr12; clear qr12
  obtain ⟨qa13, ql13, qc13, rfl⟩ := T.rd_slice qr13; clear qr13
  have HAY := hide (show Below w5.heap.size w5 (w5.alloc (.cells #[(.slice qa0 ql0 qc0), (.slice qa1 ql1 qc1), .int .i64 y.fTuning.fBase.fNum, .int .i64 y.fTuning.fBase.fDen, .int .i64 y.fTuning.fOctave.fNum, .int .i64 y.fTuning.fOctave.fDen, (.slice qa6 ql6 qc6), (.slice qa7 ql7 qc7), .int .i64 y.fSession.fLength, (.slice qa9 ql9 qc9), (.slice qa10 ql10 qc10), (.slice qa11 ql11 qc11), (.slice qa12 ql12 qc12), (.slice qa13 ql13 qc13)] 64)) from (Below.refl _ _).alloc (Nat.le_refl _) _)
  have KY0 := hide (Bk.born w5 64 #[(.slice qa0 ql0 qc0), (.slice qa1 ql1 qc1), .int .i64 y.fTuning.fBase.fNum, .int .i64 y.fTuning.fBase.fDen, .int .i64 y.fTuning.fOctave.fNum, .int .i64 y.fTuning.fOctave.fDen, (.slice qa6 ql6 qc6), (.slice qa7 ql7 qc7), .int .i64 y.fSession.fLength, (.slice qa9 ql9 qc9), (.slice qa10 ql10 qc10), (.slice qa11 ql11 qc11), (.slice qa12 ql12 qc12), (.slice qa13 ql13 qc13)])
  have kx := KX.out.cell; have lx := KX.out.lt
  go_wp2_with fail
  refine (b_iSameDesk x y _ _ _ (T.rds_below DX.out HAY.out) (T.rds_below DY.out HAY.out)).mono ?_; rintro e w6 ⟨rfl, hb9⟩
  have hb := bthen HAY.out HAY.out.size hb9
  replace DX := hide (T.rds_below DX.out hb); replace DY := hide (T.rds_below DY.out hb); have KY := hide (KY0.out.below hb9 KY0.out.lt); clear hb9 KY0 HAY kx lx
  have H6 := hide (bthen H5.out H5.out.size hb)
  replace KA := hide (KA.out.below hb KA.out.lt)
  replace KB := hide (KB.out.below hb KB.out.lt)
  replace KX := hide (KX.out.below hb KX.out.lt)
  clear hb ka kb la lb; have ka := KA.out.cell; have kb := KB.out.cell; have la := KA.out.lt; have lb := KB.out.lt
  have kx := KX.out.cell; have ky := KY.out.cell; have lx := KX.out.lt; have ly := KY.out.lt
  generalize decide (x = y) = ans at *
  have hne : (ans != ans) = false := by simp
  go_wp2
  go_region_held3 (fun w' => (∀ i, w'.cell? ⟨w.heap.size, i, none⟩ = #[(.slice va0 vl0 vc0), (.slice va1 vl1 vc1), .int .i64 x.fTuning.fBase.fNum, .int .i64 x.fTuning.fBase.fDen, .int .i64 x.fTuning.fOctave.fNum, .int .i64 x.fTuning.fOctave.fDen, (.slice va6 vl6 vc6), (.slice va7 vl7 vc7), .int .i64 x.fSession.fLength, (.slice va9 vl9 vc9), (.slice va10 vl10 vc10), (.slice va11 vl11 vc11), (.slice va12 vl12 vc12), (.slice va13 vl13 vc13)][i]?) ∧ (∀ i, w'.cell? ⟨w.heap.size + 1, i, none⟩ = #[(.slice ua0 ul0 uc0), (.slice ua1 ul1 uc1), .int .i64 y.fTuning.fBase.fNum, .int .i64 y.fTuning.fBase.fDen, .int .i64 y.fTuning.fOctave.fNum, .int .i64 y.fTuning.fOctave.fDen, (.slice ua6 ul6 uc6), (.slice ua7 ul7 uc7), .int .i64 y.fSession.fLength, (.slice ua9 ul9 uc9), (.slice ua10 ul10 uc10), (.slice ua11 ul11 uc11), (.slice ua12 ul12 uc12), (.slice ua13 ul13 uc13)][i]?) ∧ (∀ i, w'.cell? ⟨w4.heap.size, i, none⟩ = #[(.slice pa0 pl0 pc0), (.slice pa1 pl1 pc1), .int .i64 x.fTuning.fBase.fNum, .int .i64 x.fTuning.fBase.fDen, .int .i64 x.fTuning.fOctave.fNum, .int .i64 x.fTuning.fOctave.fDen, (.slice pa6 pl6 pc6), (.slice pa7 pl7 pc7), .int .i64 x.fSession.fLength, (.slice pa9 pl9 pc9), (.slice pa10 pl10 pc10), (.slice pa11 pl11 pc11), (.slice pa12 pl12 pc12), (.slice pa13 pl13 pc13)][i]?) ∧ (∀ i, w'.cell? ⟨w5.heap.size, i, none⟩ = #[(.slice qa0 ql0 qc0), (.slice qa1 ql1 qc1), .int .i64 y.fTuning.fBase.fNum, .int .i64 y.fTuning.fBase.fDen, .int .i64 y.fTuning.fOctave.fNum, .int .i64 y.fTuning.fOctave.fDen, (.slice qa6 ql6 qc6), (.slice qa7 ql7 qc7), .int .i64 y.fSession.fLength, (.slice qa9 ql9 qc9), (.slice qa10 ql10 qc10), (.slice qa11 ql11 qc11), (.slice qa12 ql12 qc12), (.slice qa13 ql13 qc13)][i]?)) (first | exact ⟨KA.out.cell, KB.out.cell, KX.out.cell, KY.out.cell⟩ | exact ⟨(KA.out.below c6.out KA.out.lt).cell, (KB.out.below c6.out KB.out.lt).cell, (KX.out.below c6.out KX.out.lt).cell, (KY.out.below c6.out KY.out.lt).cell⟩ | exact ⟨(KA.out.below c5.out KA.out.lt).cell, (KB.out.below c5.out KB.out.lt).cell, (KX.out.below c5.out KX.out.lt).cell, (KY.out.below c5.out KY.out.lt).cell⟩) (first | (go_at_call 13; refine (b_toDesk x _ _ sx (T.rds_below HX.out (by first | exact H6.out | exact H6.out.drew | exact below_drewN H6.out _))).mono ?_; rintro e wA ⟨fs, rfl, hfs, hb5⟩; have c5 := hide (show Below w6.heap.size w6 wA from (by first | exact hb5 | exact undrew hb5 | exact undrewN hb5)); have F5 := hide hfs) | (go_at_call 15; refine (b_eqDesk x _ _ _ (T.rds_below DX.out (by first | exact c5.out | exact c5.out.drew | exact below_drewN c5.out _)) (T.rds_below F5.out (by first | exact Below.refl _ _ | exact (Below.refl _ _).drew | exact below_drewN (Below.refl _ _) _))).mono ?_; rintro e wB ⟨rfl, hb6⟩; have c6 := hide (bthen c5.out c5.out.size (show Below wA.heap.size wA wB from (by first | exact hb6 | exact undrew hb6 | exact undrewN hb6)))))
  have hb : Below w6.heap.size w6 wB := c6.out
  generalize wB = w7 at *
  clear c5 c6 F5
  replace DX := hide (T.rds_below DX.out hb); replace DY := hide (T.rds_below DY.out hb)
  clear kx ky lx ly
  have H7 := hide (bthen H6.out H6.out.size hb)
  replace KA := hide (KA.out.below hb KA.out.lt)
  replace KB := hide (KB.out.below hb KB.out.lt)
  replace KX := hide (KX.out.below hb KX.out.lt)
  replace KY := hide (KY.out.below hb KY.out.lt)
  clear hb ka kb la lb; have ka := KA.out.cell; have kb := KB.out.cell; have la := KA.out.lt; have lb := KB.out.lt
  have kx := KX.out.cell; have ky := KY.out.cell; have lx := KX.out.lt; have ly := KY.out.lt
  go_wp2
  go_region_held3 (fun w' => (∀ i, w'.cell? ⟨w.heap.size, i, none⟩ = #[(.slice va0 vl0 vc0), (.slice va1 vl1 vc1), .int .i64 x.fTuning.fBase.fNum, .int .i64 x.fTuning.fBase.fDen, .int .i64 x.fTuning.fOctave.fNum, .int .i64 x.fTuning.fOctave.fDen, (.slice va6 vl6 vc6), (.slice va7 vl7 vc7), .int .i64 x.fSession.fLength, (.slice va9 vl9 vc9), (.slice va10 vl10 vc10), (.slice va11 vl11 vc11), (.slice va12 vl12 vc12), (.slice va13 vl13 vc13)][i]?) ∧ (∀ i, w'.cell? ⟨w.heap.size + 1, i, none⟩ = #[(.slice ua0 ul0 uc0), (.slice ua1 ul1 uc1), .int .i64 y.fTuning.fBase.fNum, .int .i64 y.fTuning.fBase.fDen, .int .i64 y.fTuning.fOctave.fNum, .int .i64 y.fTuning.fOctave.fDen, (.slice ua6 ul6 uc6), (.slice ua7 ul7 uc7), .int .i64 y.fSession.fLength, (.slice ua9 ul9 uc9), (.slice ua10 ul10 uc10), (.slice ua11 ul11 uc11), (.slice ua12 ul12 uc12), (.slice ua13 ul13 uc13)][i]?) ∧ (∀ i, w'.cell? ⟨w4.heap.size, i, none⟩ = #[(.slice pa0 pl0 pc0), (.slice pa1 pl1 pc1), .int .i64 x.fTuning.fBase.fNum, .int .i64 x.fTuning.fBase.fDen, .int .i64 x.fTuning.fOctave.fNum, .int .i64 x.fTuning.fOctave.fDen, (.slice pa6 pl6 pc6), (.slice pa7 pl7 pc7), .int .i64 x.fSession.fLength, (.slice pa9 pl9 pc9), (.slice pa10 pl10 pc10), (.slice pa11 pl11 pc11), (.slice pa12 pl12 pc12), (.slice pa13 pl13 pc13)][i]?) ∧ (∀ i, w'.cell? ⟨w5.heap.size, i, none⟩ = #[(.slice qa0 ql0 qc0), (.slice qa1 ql1 qc1), .int .i64 y.fTuning.fBase.fNum, .int .i64 y.fTuning.fBase.fDen, .int .i64 y.fTuning.fOctave.fNum, .int .i64 y.fTuning.fOctave.fDen, (.slice qa6 ql6 qc6), (.slice qa7 ql7 qc7), .int .i64 y.fSession.fLength, (.slice qa9 ql9 qc9), (.slice qa10 ql10 qc10), (.slice qa11 ql11 qc11), (.slice qa12 ql12 qc12), (.slice qa13 ql13 qc13)][i]?)) (first | exact ⟨KA.out.cell, KB.out.cell, KX.out.cell, KY.out.cell⟩ | exact ⟨(KA.out.below c6.out KA.out.lt).cell, (KB.out.below c6.out KB.out.lt).cell, (KX.out.below c6.out KX.out.lt).cell, (KY.out.below c6.out KY.out.lt).cell⟩ | exact ⟨(KA.out.below c5.out KA.out.lt).cell, (KB.out.below c5.out KB.out.lt).cell, (KX.out.below c5.out KX.out.lt).cell, (KY.out.below c5.out KY.out.lt).cell⟩) (first | (go_at_call 13; refine (b_toDesk y _ _ sy (T.rds_below HY.out (by first | exact H7.out | exact H7.out.drew | exact below_drewN H7.out _))).mono ?_; rintro e wA ⟨fs, rfl, hfs, hb5⟩; have c5 := hide (show Below w7.heap.size w7 wA from (by first | exact hb5 | exact undrew hb5 | exact undrewN hb5)); have F5 := hide hfs) | (go_at_call 15; refine (b_eqDesk y _ _ _ (T.rds_below DY.out (by first | exact c5.out | exact c5.out.drew | exact below_drewN c5.out _)) (T.rds_below F5.out (by first | exact Below.refl _ _ | exact (Below.refl _ _).drew | exact below_drewN (Below.refl _ _) _))).mono ?_; rintro e wB ⟨rfl, hb6⟩; have c6 := hide (bthen c5.out c5.out.size (show Below wA.heap.size wA wB from (by first | exact hb6 | exact undrew hb6 | exact undrewN hb6)))))
  have hb : Below w7.heap.size w7 wB := c6.out
  generalize wB = w8 at *
  clear c5 c6 F5
  replace DX := hide (T.rds_below DX.out hb); replace DY := hide (T.rds_below DY.out hb)
  clear kx ky lx ly
  have H8 := hide (bthen H7.out H7.out.size hb)
  replace KA := hide (KA.out.below hb KA.out.lt)
  replace KB := hide (KB.out.below hb KB.out.lt)
  replace KX := hide (KX.out.below hb KX.out.lt)
  replace KY := hide (KY.out.below hb KY.out.lt)
  clear hb ka kb la lb; have ka := KA.out.cell; have kb := KB.out.cell; have la := KA.out.lt; have lb := KB.out.lt
  have kx := KX.out.cell; have ky := KY.out.cell; have lx := KX.out.lt; have ly := KY.out.lt
  go_wp2
  go_ret
  exact ⟨rfl, H8.out⟩
end Go.Proofs.YtfifcnojkjjnkaaGreat
