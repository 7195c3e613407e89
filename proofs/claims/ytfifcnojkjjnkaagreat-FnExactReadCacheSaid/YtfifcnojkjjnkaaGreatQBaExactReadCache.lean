/- The law ReadCache. -/
import Derived.Test.YtfifcnojkjjnkaaGreatQAyExactReadCache
import Derived.Test.YtfifcnojkjjnkaaGreatQAzExactReadCache
set_option linter.unusedVariables false
set_option linter.unusedSimpArgs false
namespace Go.Proofs.YtfifcnojkjjnkaaGreat
open Go.RowKit
theorem readF_len (x : GCache) (f n : Int) : (readF x f n).1.length ≤ 1048576 := by
  unfold readF
  by_cases q1 : CacheOk x
  · rw [if_pos (tf_yes q1)]
    have i1 := inB_iff.1 q1.session.length
    by_cases q2 : inB f 0 x.fSession.fLength = true ∧ inB n 0 (x.fSession.fLength - f) = true
    · rw [if_pos q2]
      have i2 := inB_iff.1 q2.1
      have i3 := inB_iff.1 q2.2
      by_cases q3 : tf (DirtyIn x f n) = true
      · rw [if_pos q3]; simp
      · rw [if_neg q3]
        show (cutL x.fMix f n.toNat).length ≤ 1048576
        rw [length_cutL]; omega
    · rw [if_neg q2]; simp
  · rw [if_neg (by rw [tf_no q1]; simp)]; simp
theorem Fr.trn {w w' : World} {E : TypeId} {lo hi : Nat} {v : Value} {xs : List Int} {F : List Nat} (h : Fr E w lo hi v xs) (k : Trn F w w') (hd : ∀ b ∈ F, b < lo ∨ hi ≤ b) : Fr E w' lo hi v xs :=
  ⟨ownsRow_keep (fun b hb => k.block _ (h.1.lt b hb).2 (fun hm => by have h1 := (h.1.lt b hb).1; have h2 := h.2 b hb; have := hd b hm; omega)) h.1, h.2⟩
set_option maxHeartbeats 4000000 in
set_option maxRecDepth 100000 in
theorem law_ReadCache (x : GCache) (cs : List Value) (f : Int) (n : Int) (w : World) (hx : T.rds w x.fs cs) (gx : x.good) : Calls Tryz.prog 5 #[.agg cs.toArray, .int .i64 f, .int .i64 n] w fun e w' => e = .returned (.bool true) ∧ Below w.heap.size w w' := by
  have HX := hide hx
  obtain ⟨v1, v2, v3, v4, v5, v6, v7, rfl, vr1, vr2, vr3, vr4, vr5, vr6, vr7⟩ := GCache.rd_open hx
  obtain ⟨va1, vl1, vc1, rfl⟩ := T.rd_slice vr1; clear vr1
  obtain ⟨va2, vl2, vc2, rfl⟩ := T.rd_slice vr2; clear vr2
  obtain ⟨va3, vl3, vc3, rfl⟩ := T.rd_slice vr3; clear vr3
  obtain ⟨va4, vl4, vc4, rfl⟩ := T.rd_slice vr4; clear vr4
  obtain ⟨va5, vl5, vc5, rfl⟩ := T.rd_slice vr5; clear vr5
  obtain ⟨va6, vl6, vc6, rfl⟩ := T.rd_slice vr6; clear vr6
  obtain ⟨va7, vl7, vc7, rfl⟩ := T.rd_slice vr7; clear vr7
  clear hx
  have H0 := hide (show Below w.heap.size w (w.alloc (.cells #[.int .i64 x.fSession.fLength, (.slice va1 vl1 vc1), (.slice va2 vl2 vc2), (.slice va3 vl3 vc3), (.slice va4 vl4 vc4), (.slice va5 vl5 vc5), (.slice va6 vl6 vc6), (.slice va7 vl7 vc7)] 68)) from (Below.refl _ _).alloc (Nat.le_refl _) _)
  have K0 := hide (Bk.born w 68 #[.int .i64 x.fSession.fLength, (.slice va1 vl1 vc1), (.slice va2 vl2 vc2), (.slice va3 vl3 vc3), (.slice va4 vl4 vc4), (.slice va5 vl5 vc5), (.slice va6 vl6 vc6), (.slice va7 vl7 vc7)])
  go_enter Tryz.func5, Tryz.ntmps5
  have hz0 : w.heap.size < (w.alloc (.cells #[.int .i64 x.fSession.fLength, (.slice va1 vl1 vc1), (.slice va2 vl2 vc2), (.slice va3 vl3 vc3), (.slice va4 vl4 vc4), (.slice va5 vl5 vc5), (.slice va6 vl6 vc6), (.slice va7 vl7 vc7)] 68)).heap.size := by simp
  go_wp2_with fail
  refine (b_szCache x _ 1048576 _ (by omega) (by omega) gx (T.rds_below HX.out H0.out)).mono ?_; rintro e w1 ⟨m, rfl, hm0, hm1, hsx, hb⟩
  have H1 := hide (bthen H0.out H0.out.size hb); have K1 := hide (K0.out.below hb K0.out.lt); have hs1 := hb.size
  clear hb; have k0 := K1.out.cell; have l0 := K1.out.lt
  by_cases cm : m < 0
  · go_wp2
    go_ret
    exact ⟨rfl, H1.out⟩
  have sx := hsx (by omega)
  have hcn := GCache.cntv_le sx
  have hrl := readF_len x f n
  have sxs : x.fSession.small := ⟨sx.1, sx.2.1, sx.2.2.1, sx.2.2.2.1, sx.2.2.2.2.1⟩
  generalize hR : readF x f n = R at *
  obtain ⟨res, code⟩ := R
  have HRE := hide hR; clear hR
  have hne : (code != code) = false := by simp
  have hrl' : res.length ≤ 1048576 := hrl; clear hrl
  go_wp2_with fail
  refine (b_toCache x _ _ sx (T.rds_below HX.out H1.out)).mono ?_; rintro e w2 ⟨ds, rfl, hds, hb⟩
  have Du := hide hds
  have H2 := hide (bthen H1.out H1.out.size hb); have K2 := hide (K1.out.below hb K1.out.lt); have hs2 := hb.size
  clear hb k0 l0; have k0 := K2.out.cell; have l0 := K2.out.lt
  obtain ⟨u1, u2, u3, u4, u5, u6, u7, rfl, ur1, ur2, ur3, ur4, ur5, ur6, ur7⟩ := GCache.rd_open hds
  obtain ⟨ua1, ul1, uc1, rfl⟩ := T.rd_slice ur1; clear ur1
  obtain ⟨ua2, ul2, uc2, rfl⟩ := T.rd_slice ur2; clear ur2
  obtain ⟨ua3, ul3, uc3, rfl⟩ := T.rd_slice ur3; clear ur3
  obtain ⟨ua4, ul4, uc4, rfl⟩ := T.rd_slice ur4; clear ur4
  obtain ⟨ua5, ul5, uc5, rfl⟩ := T.rd_slice ur5; clear ur5
  obtain ⟨ua6, ul6, uc6, rfl⟩ := T.rd_slice ur6; clear ur6
  obtain ⟨ua7, ul7, uc7, rfl⟩ := T.rd_slice ur7; clear ur7
  go_wp2_with fail
  refine (c_sReadCache x _ f n _ sxs Du.out).mono ?_; rintro e w3 ⟨vg, cg, rfl, hcg, og, hb⟩
  rw [HRE.out] at hcg ⊢; obtain rfl : res = cg := hcg.symm; clear hcg
  have Gg := hide (Fr.born og); clear og
  have H3 := hide (bthen H2.out H2.out.size hb); have K3 := hide (K2.out.below hb K2.out.lt); have hs3 := hb.size
  clear hb k0 l0; have k0 := K3.out.cell; have l0 := K3.out.lt
  clear Du
  go_wp2_with fail
  refine (bo_toCache x _ _ sx (T.rds_below HX.out H3.out)).mono ?_; rintro e w4 ⟨ds, Ft, rfl, hN⟩
  have ONt := hide hN.ows; have NDt := hide hN.nodup; have LOt := hide hN.lo; have HIt := hide hN.lt; have hb := hN.below; have hds := T.ows_rds _ _ _ hN.ows; clear hN
  have H4 := hide (bthen H3.out H3.out.size hb); have K4 := hide (K3.out.below hb K3.out.lt); have hs4 := hb.size
  replace Gg := hide (Gg.out.below hb (by omega))
  clear hb k0 l0; have k0 := K4.out.cell; have l0 := K4.out.lt
  obtain ⟨t1, t2, t3, t4, t5, t6, t7, rfl, tr1, tr2, tr3, tr4, tr5, tr6, tr7⟩ := GCache.rd_open hds
  obtain ⟨ta1, tl1, tc1, rfl⟩ := T.rd_slice tr1; clear tr1
  obtain ⟨ta2, tl2, tc2, rfl⟩ := T.rd_slice tr2; clear tr2
  obtain ⟨ta3, tl3, tc3, rfl⟩ := T.rd_slice tr3; clear tr3
  obtain ⟨ta4, tl4, tc4, rfl⟩ := T.rd_slice tr4; clear tr4
  obtain ⟨ta5, tl5, tc5, rfl⟩ := T.rd_slice tr5; clear tr5
  obtain ⟨ta6, tl6, tc6, rfl⟩ := T.rd_slice tr6; clear tr6
  obtain ⟨ta7, tl7, tc7, rfl⟩ := T.rd_slice tr7; clear tr7
  have HA := hide (show Below w4.heap.size w4 (w4.alloc (.cells #[.int .i64 x.fSession.fLength, (.slice ta1 tl1 tc1), (.slice ta2 tl2 tc2), (.slice ta3 tl3 tc3), (.slice ta4 tl4 tc4), (.slice ta5 tl5 tc5), (.slice ta6 tl6 tc6), (.slice ta7 tl7 tc7)] 72)) from (Below.refl _ _).alloc (Nat.le_refl _) _)
  have KX0 := hide (Bk.born w4 72 #[.int .i64 x.fSession.fLength, (.slice ta1 tl1 tc1), (.slice ta2 tl2 tc2), (.slice ta3 tl3 tc3), (.slice ta4 tl4 tc4), (.slice ta5 tl5 tc5), (.slice ta6 tl6 tc6), (.slice ta7 tl7 tc7)])
  go_wp2_with fail
  refine (c_iReadCache x _ f n _ sxs (T.rds_below (T.ows_rds _ _ _ ONt.out) HA.out)).mono ?_; rintro e w5 ⟨vr, cr, rfl, hcr, oR, hb9⟩
  rw [HRE.out] at hcr ⊢; obtain rfl : res = cr := hcr.symm; clear hcr
  have hb := bthen HA.out HA.out.size hb9
  have Rr := hide (show Fr 2 w5 w4.heap.size w5.heap.size vr res from ⟨oR.more HA.out.size, fun k hk => (oR.lt k hk).2⟩); clear oR
  have KX := hide (KX0.out.below hb9 KX0.out.lt); clear hb9 KX0 HA
  have H5 := hide (bthen H4.out H4.out.size hb); have K5 := hide (K4.out.below hb K4.out.lt); have hs5 := hb.size
  replace Gg := hide (Gg.out.below hb (by omega))
  replace ONt := hide (T.ows_all ONt.out hb)
  clear hb k0 l0; have k0 := K5.out.cell; have l0 := K5.out.lt
  have kx := KX.out.cell; have lx := KX.out.lt
  clear kx lx
  go_wp2_with fail
  refine (c_eqI _ _ res _ Rr.out.rd Gg.out.rd).mono ?_; rintro e w6 ⟨rfl, hd⟩; have hb : Below w5.heap.size w5 w6 := hd.to_below _; clear hd
  have H6 := hide (bthen H5.out H5.out.size hb); have K6 := hide (K5.out.below hb K5.out.lt); have hs6 := hb.size
  replace KX := hide (KX.out.below hb KX.out.lt)
  replace Gg := hide (Gg.out.below hb (by omega))
  replace Rr := hide (Rr.out.below hb (by omega))
  replace ONt := hide (T.ows_all ONt.out hb)
  clear hb k0 l0; have k0 := K6.out.cell; have l0 := K6.out.lt
  have kx := KX.out.cell; have lx := KX.out.lt
  go_wp2
  have DX := hide (T.ows_rds _ _ _ ONt.out)
  go_region_held3 (fun w' => (∀ i, w'.cell? ⟨w.heap.size, i, none⟩ = #[.int .i64 x.fSession.fLength, (.slice va1 vl1 vc1), (.slice va2 vl2 vc2), (.slice va3 vl3 vc3), (.slice va4 vl4 vc4), (.slice va5 vl5 vc5), (.slice va6 vl6 vc6), (.slice va7 vl7 vc7)][i]?) ∧ (∀ i, w'.cell? ⟨w4.heap.size, i, none⟩ = #[.int .i64 x.fSession.fLength, (.slice ta1 tl1 tc1), (.slice ta2 tl2 tc2), (.slice ta3 tl3 tc3), (.slice ta4 tl4 tc4), (.slice ta5 tl5 tc5), (.slice ta6 tl6 tc6), (.slice ta7 tl7 tc7)][i]?)) (first | exact ⟨K6.out.cell, KX.out.cell⟩ | exact ⟨(K6.out.below c6.out K6.out.lt).cell, (KX.out.below c6.out KX.out.lt).cell⟩ | exact ⟨(K6.out.below c5.out K6.out.lt).cell, (KX.out.below c5.out KX.out.lt).cell⟩) (first | (go_at_call 18; refine (b_toCache x _ _ sx (T.rds_below HX.out (by first | exact H6.out | exact H6.out.drew | exact below_drewN H6.out _))).mono ?_; rintro e wA ⟨fs, rfl, hfs, hb5⟩; have c5 := hide (show Below w6.heap.size w6 wA from (by first | exact hb5 | exact undrew hb5 | exact undrewN hb5)); have F5 := hide hfs) | (go_at_call 20; refine (b_eqCache x _ _ _ (T.rds_below DX.out (by first | exact c5.out | exact c5.out.drew | exact below_drewN c5.out _)) (T.rds_below F5.out (by first | exact Below.refl _ _ | exact (Below.refl _ _).drew | exact below_drewN (Below.refl _ _) _))).mono ?_; rintro e wB ⟨rfl, hb6⟩; have c6 := hide (bthen c5.out c5.out.size (show Below wA.heap.size wA wB from (by first | exact hb6 | exact undrew hb6 | exact undrewN hb6)))))
  have H9 := hide (bthen H6.out H6.out.size c6.out)
  have hb := c6.out
  generalize wB = w7 at *
  clear c5 c6 F5 H9 DX kx lx
  have H7 := hide (bthen H6.out H6.out.size hb); have K7 := hide (K6.out.below hb K6.out.lt); have hs7 := hb.size
  replace KX := hide (KX.out.below hb KX.out.lt)
  replace Gg := hide (Gg.out.below hb (by omega))
  replace Rr := hide (Rr.out.below hb (by omega))
  replace ONt := hide (T.ows_all ONt.out hb)
  clear hb k0 l0; have k0 := K7.out.cell; have l0 := K7.out.lt
  have kx := KX.out.cell; have lx := KX.out.lt
  go_wp2_with fail
  refine (bo_markCache x _ Ft 1 _ (by omega) (by omega) ONt.out NDt.out).mono ?_; rintro e w8 ⟨rfl, _, hT⟩
  obtain ⟨mm, hmm, hpos⟩ : ∃ mm : Int, ((1 + x.cntv : Nat) : Int) = mm ∧ 0 < mm := ⟨_, rfl, by omega⟩
  rw [hmm]; clear hmm; have npos : ¬ mm < 0 := by omega
  clear kx lx KX
  have H8 := hide (hT.below H7.out (fun b hb => by have := LOt.out b hb; omega) H7.out.size); have K8 := hide (K7.out.trn hT (fun hb => by have := LOt.out _ hb; omega)); have hs8 := hT.size
  replace Gg := hide (Gg.out.trn hT (fun b hb => by have h1 := LOt.out b hb; have h2 := HIt.out b hb; omega))
  replace Rr := hide (Rr.out.trn hT (fun b hb => by have h1 := LOt.out b hb; have h2 := HIt.out b hb; omega))
  clear hT k0 l0; have k0 := K8.out.cell; have l0 := K8.out.lt
  go_wp2_with fail
  refine (c_eqI _ _ res _ Rr.out.rd Gg.out.rd).mono ?_; rintro e w9 ⟨rfl, hd⟩; have hb : Below w8.heap.size w8 w9 := hd.to_below _; clear hd
  have H9 := hide (bthen H8.out H8.out.size hb); have K9 := hide (K8.out.below hb K8.out.lt); have hs9 := hb.size
  replace Gg := hide (Gg.out.below hb (by omega))
  replace Rr := hide (Rr.out.below hb (by omega))
  clear hb k0 l0; have k0 := K9.out.cell; have l0 := K9.out.lt
  go_wp2_with fail
  refine (c_markInt64S _ _ _ res 1 _ Rr.out.1 (by omega)).mono ?_; rintro e w10 ⟨rfl, om, hg⟩
  have H10 := hide (Rr.out.below_mark H9.out hg (by omega) H9.out.size); have K10 := hide (K9.out.trn (Trn.of_grown hg) (fun hb => by have h1 := (Rr.out.1.lt _ (by simpa using hb)).1; omega)); have hs10 := hg.size
  replace Gg := hide (Gg.out.other Rr.out hg (by omega))
  replace Rr := hide (Rr.out.mark om)
  clear om hg k0 l0; have k0 := K10.out.cell; have l0 := K10.out.lt
  go_wp2_with fail
  refine (c_heldI _ res.length 1 _ Rr.out.rd (by omega)).mono ?_; rintro e _ ⟨rfl, rfl⟩
  go_wp2_with fail
  refine (b_toCache x _ _ sx (T.rds_below HX.out H10.out)).mono ?_; rintro e w11 ⟨ds, rfl, hds, hb⟩
  have Dq := hide hds
  have H11 := hide (bthen H10.out H10.out.size hb); have K11 := hide (K10.out.below hb K10.out.lt); have hs11 := hb.size
  replace Gg := hide (Gg.out.below hb (by omega))
  replace Rr := hide (Rr.out.below hb (by omega))
  clear hb k0 l0; have k0 := K11.out.cell; have l0 := K11.out.lt
  obtain ⟨q1, q2, q3, q4, q5, q6, q7, rfl, qr1, qr2, qr3, qr4, qr5, qr6, qr7⟩ := GCache.rd_open hds
  obtain ⟨qa1, ql1, qc1, rfl⟩ := T.rd_slice qr1; clear qr1
  obtain ⟨qa2, ql2, qc2, rfl⟩ := T.rd_slice qr2; clear qr2
  obtain ⟨qa3, ql3, qc3, rfl⟩ := T.rd_slice qr3; clear qr3
  obtain ⟨qa4, ql4, qc4, rfl⟩ := T.rd_slice qr4; clear qr4
  obtain ⟨qa5, ql5, qc5, rfl⟩ := T.rd_slice qr5; clear qr5
  obtain ⟨qa6, ql6, qc6, rfl⟩ := T.rd_slice qr6; clear qr6
  obtain ⟨qa7, ql7, qc7, rfl⟩ := T.rd_slice qr7; clear qr7
  go_wp2_with fail
  refine (c_iReadCache x _ f n _ sxs Dq.out).mono ?_; rintro e w12 ⟨vs, cr, rfl, hcr, oR, hb⟩
  rw [HRE.out] at hcr ⊢; obtain rfl : res = cr := hcr.symm; clear hcr
  have Rs := hide (Fr.born oR); clear oR
  have H12 := hide (bthen H11.out H11.out.size hb); have K12 := hide (K11.out.below hb K11.out.lt); have hs12 := hb.size
  replace Gg := hide (Gg.out.below hb (by omega))
  replace Rr := hide (Rr.out.below hb (by omega))
  clear hb k0 l0; have k0 := K12.out.cell; have l0 := K12.out.lt
  go_wp2_with fail
  refine (c_eqI _ _ res _ Rs.out.rd Gg.out.rd).mono ?_; rintro e w13 ⟨rfl, hd⟩; have hb : Below w12.heap.size w12 w13 := hd.to_below _; clear hd
  have H13 := hide (bthen H12.out H12.out.size hb); have K13 := hide (K12.out.below hb K12.out.lt); have hs13 := hb.size
  replace Gg := hide (Gg.out.below hb (by omega))
  replace Rr := hide (Rr.out.below hb (by omega))
  replace Rs := hide (Rs.out.below hb (by omega))
  clear hb k0 l0; have k0 := K13.out.cell; have l0 := K13.out.lt
  go_wp2_with fail
  refine (c_heldI _ res.length 1 _ Rr.out.rd (by omega)).mono ?_; rintro e _ ⟨rfl, rfl⟩
  go_wp2
  go_ret
  exact ⟨rfl, H13.out⟩
end Go.Proofs.YtfifcnojkjjnkaaGreat
