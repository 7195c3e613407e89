/- Contract: the program's InvertEdit. -/
import Derived.Test.YtgmgjhdckepmmaaGreatQAyExactInvertEdit
import Derived.Deep.RegionHeld3
set_option linter.unusedVariables false
set_option linter.unusedSimpArgs false
namespace Go.Proofs.YtgmgjhdckepmmaaGreat
open Go.RowKit
def noEdit : GEdit := ⟨0, 0, 0, 0, noClip⟩
noncomputable def invF (s : GSession) (e : GEdit) : GEdit × Int := if (applyF s e).2 = 0 then (invertF s e, 0) else (noEdit, (applyF s e).2)
def GEdit.cs (x : GEdit) : Array Value := #[.int .i64 x.fKind, .int .i64 x.fTrack, .int .i64 x.fClip, .int .i64 x.fValue, .int .i64 x.fNew.fSource, .int .i64 x.fNew.fFrom, .int .i64 x.fNew.fLength, .int .i64 x.fNew.fAt, .int .i64 x.fNew.fGain]
set_option maxHeartbeats 8000000 in
set_option maxRecDepth 100000 in
theorem c_iInvertEdit (x : GSession) (cs : List Value) (ed : GEdit) (w : World) (hs : x.small) (h : T.rds w x.fs cs) : Calls Tryz.prog 12 #[.agg cs.toArray, .agg #[.int .i64 ed.fKind, .int .i64 ed.fTrack, .int .i64 ed.fClip, .int .i64 ed.fValue, .int .i64 ed.fNew.fSource, .int .i64 ed.fNew.fFrom, .int .i64 ed.fNew.fLength, .int .i64 ed.fNew.fAt, .int .i64 ed.fNew.fGain]] w fun e w' => e = .returned (.tuple #[.agg (invF x ed).1.cs, .int .i64 (invF x ed).2]) ∧ Below w.heap.size w w' := by
  obtain ⟨ek, et, ec, ev, ns, nf, nl, na, ng⟩ := ed
  dsimp only
  obtain ⟨v1, v2, v3, v4, v5, rfl, h1, h2, h3, h4, h5⟩ := GSession.rd_open h
  clear h
  have R1 := hide h1; obtain ⟨va1, vc1, rfl, vl1, vm1, vx1⟩ := T.rd_openG h1
  have HX1 := hide vx1; clear vx1 h1
  have R2 := hide h2; obtain ⟨va2, vc2, rfl, vl2, vm2, vx2⟩ := T.rd_openG h2
  have HX2 := hide vx2; clear vx2 h2
  have h3i := T.rd_ints.1 h3; obtain ⟨va3, vc3, rfl, vl3, vm3, vx3⟩ := h3i.open_
  have R3 := hide h3i; have HX3 := hide vx3; clear vx3 h3 h3i
  have R4 := hide h4; obtain ⟨va4, vc4, rfl, vl4, vm4, vx4⟩ := T.rd_openG h4
  have HX4 := hide vx4; clear vx4 h4
  have R5 := hide h5; obtain ⟨va5, vc5, rfl, vl5, vm5, vx5⟩ := T.rd_openG h5
  have HX5 := hide vx5; clear vx5 h5
  have HB0 := hide (show Below w.heap.size w (w.alloc (.cells #[.int .i64 x.fLength, (.slice va1 x.fSources.length vc1), (.slice va2 x.fTracks.length vc2), (.slice va3 x.fFeeds.length vc3), (.slice va4 x.fEffects.length vc4), (.slice va5 x.fMixer.fStrips.length vc5)] 32)) from (Below.refl _ _).alloc (Nat.le_refl _) _)
  have HK0 := hide (Bk.born w 32 #[.int .i64 x.fLength, (.slice va1 x.fSources.length vc1), (.slice va2 x.fTracks.length vc2), (.slice va3 x.fFeeds.length vc3), (.slice va4 x.fEffects.length vc4), (.slice va5 x.fMixer.fStrips.length vc5)])
  have HSM := hide hs; clear hs
  have GX := hide (show ∀ w', Below w.heap.size w w' → T.rds w' x.fs [.int .i64 x.fLength, (.slice va1 x.fSources.length vc1), (.slice va2 x.fTracks.length vc2), (.slice va3 x.fFeeds.length vc3), (.slice va4 x.fEffects.length vc4), (.slice va5 x.fMixer.fStrips.length vc5)] from fun w' hb => GSession.rd_mk (T.rd_below R1.out hb) (T.rd_below R2.out hb) (T.rd_ints.2 (Rd.below R3.out hb)) (T.rd_below R4.out hb) (T.rd_below R5.out hb))
  have IA := hide (fun (W : World) (hb : Below w.heap.size w W) => c_iApplyEdit x _ ⟨ek, et, ec, ev, ⟨ns, nf, nl, na, ng⟩⟩ W HSM.out (GX.out W hb))
  have OK := hide (@applyF_ok x ⟨ek, et, ec, ev, ⟨ns, nf, nl, na, ng⟩⟩)
  have HI := hide (show invF x ⟨ek, et, ec, ev, ⟨ns, nf, nl, na, ng⟩⟩ = if (applyF x ⟨ek, et, ec, ev, ⟨ns, nf, nl, na, ng⟩⟩).2 = 0 then (invertF x ⟨ek, et, ec, ev, ⟨ns, nf, nl, na, ng⟩⟩, 0) else (noEdit, (applyF x ⟨ek, et, ec, ev, ⟨ns, nf, nl, na, ng⟩⟩).2) from rfl)
  have HBa := hide ((HB0.out.alloc (by simp) (.cells #[.int .i64 ek, .int .i64 et, .int .i64 ec, .int .i64 ev, .int .i64 ns, .int .i64 nf, .int .i64 nl, .int .i64 na, .int .i64 ng] 41)).alloc (by simp; omega) (.cells #[.int .i64 0, .int .i64 0, .int .i64 0, .int .i64 0, .int .i64 0, .int .i64 0, .int .i64 0, .int .i64 0, .int .i64 0] 41))
  have HP := hide ((HK0.out.alloc (.cells #[.int .i64 ek, .int .i64 et, .int .i64 ec, .int .i64 ev, .int .i64 ns, .int .i64 nf, .int .i64 nl, .int .i64 na, .int .i64 ng] 41)).alloc (.cells #[.int .i64 0, .int .i64 0, .int .i64 0, .int .i64 0, .int .i64 0, .int .i64 0, .int .i64 0, .int .i64 0, .int .i64 0] 41)); have HE := hide ((Bk.born1' w (.cells #[.int .i64 x.fLength, (.slice va1 x.fSources.length vc1), (.slice va2 x.fTracks.length vc2), (.slice va3 x.fFeeds.length vc3), (.slice va4 x.fEffects.length vc4), (.slice va5 x.fMixer.fStrips.length vc5)] 32) 41 #[.int .i64 ek, .int .i64 et, .int .i64 ec, .int .i64 ev, .int .i64 ns, .int .i64 nf, .int .i64 nl, .int .i64 na, .int .i64 ng]).alloc (.cells #[.int .i64 0, .int .i64 0, .int .i64 0, .int .i64 0, .int .i64 0, .int .i64 0, .int .i64 0, .int .i64 0, .int .i64 0] 41)); have HR : Sec (Bk _ (w.heap.size + 1 + 1) 41 #[.int .i64 0, .int .i64 0, .int .i64 0, .int .i64 0, .int .i64 0, .int .i64 0, .int .i64 0, .int .i64 0, .int .i64 0]) := hide (Bk.born2 w (.cells #[.int .i64 x.fLength, (.slice va1 x.fSources.length vc1), (.slice va2 x.fTracks.length vc2), (.slice va3 x.fFeeds.length vc3), (.slice va4 x.fEffects.length vc4), (.slice va5 x.fMixer.fStrips.length vc5)] 32) (.cells #[.int .i64 ek, .int .i64 et, .int .i64 ec, .int .i64 ev, .int .i64 ns, .int .i64 nf, .int .i64 nl, .int .i64 na, .int .i64 ng] 41) 41 #[.int .i64 0, .int .i64 0, .int .i64 0, .int .i64 0, .int .i64 0, .int .i64 0, .int .i64 0, .int .i64 0, .int .i64 0])
  clear HB0 HK0
  obtain ⟨W, hW⟩ : ∃ W', W' = (((w.alloc (.cells #[.int .i64 x.fLength, (.slice va1 x.fSources.length vc1), (.slice va2 x.fTracks.length vc2), (.slice va3 x.fFeeds.length vc3), (.slice va4 x.fEffects.length vc4), (.slice va5 x.fMixer.fStrips.length vc5)] 32)).alloc (.cells #[.int .i64 ek, .int .i64 et, .int .i64 ec, .int .i64 ev, .int .i64 ns, .int .i64 nf, .int .i64 nl, .int .i64 na, .int .i64 ng] 41)).alloc (.cells #[.int .i64 0, .int .i64 0, .int .i64 0, .int .i64 0, .int .i64 0, .int .i64 0, .int .i64 0, .int .i64 0, .int .i64 0] 41)) := ⟨_, rfl⟩
  rw [← hW] at HBa HP HE HR
  have HW := hide hW; clear hW
  generalize hIV : invF x ⟨ek, et, ec, ev, ⟨ns, nf, nl, na, ng⟩⟩ = IV at *; clear hIV
  go_enter Tryz.func12, Tryz.ntmps12
  have HB := HBa; clear HBa
  go_wp2_with fail
  rw [← HW.out]
  refine (IA.out _ HB.out).mono ?_; rintro e wA ⟨v1, v2, v3, v4, v5, F, rfl, hN⟩
  obtain ⟨⟨A1, L1, C1, rfl⟩, ⟨A2, L2, C2, rfl⟩, ⟨A3, L3, C3, rfl⟩, ⟨A4, L4, C4, rfl⟩, ⟨A5, L5, C5, rfl⟩⟩ := GSession.sl5 (T.ows_rds _ _ _ hN.ows)
  have hb := hN.below; clear hN
  have HB1 := hide (bthen HB.out HB.out.size hb); have HP1 := hide (HP.out.below hb HP.out.lt); have HE1 := hide (HE.out.below hb HE.out.lt); have HR1 := hide (HR.out.below hb HR.out.lt); clear hb HB HP HE HR
  have ke := HE1.out.cell; have kp := HP1.out.cell; have kr := HR1.out.cell; have fr := HR1.out.free; have lr := HR1.out.lt
  generalize hAF : applyF x ⟨ek, et, ec, ev, ⟨ns, nf, nl, na, ng⟩⟩ = AF at *; clear hAF
  have hwa := HB1.out.size
  have lr2 : w.heap.size + 1 + 1 < wA.heap.size + 1 := by omega
  by_cases hc : AF.2 = 0
  rotate_left
  ·
    have q0 : (AF.2 != 0) = true := bneI_t hc
    have HA := hide (HI.out.trans (if_neg hc)); clear hc
    go_wp2
    refine bodyPost_ret (v := .tuple #[.agg #[.int .i64 0, .int .i64 0, .int .i64 0, .int .i64 0, .int .i64 0, .int .i64 0, .int .i64 0, .int .i64 0, .int .i64 0], .int .i64 AF.2]) (by simp [results, Tryz.results12, go_sem, kr, fr, lr, lr2]) rfl ?_
    rw [HA.out]; have hb := HB1.out; exact ⟨rfl, (by repeat (first | with_reducible exact Below.refl _ _ | with_reducible assumption | with_reducible refine Below.setCell ?_ (by first | omega | (simp; done) | (simp; omega)) _ | with_reducible refine Below.alloc ?_ (by first | omega | (simp; done) | (simp; omega)) _ | with_reducible refine Below.drew ?_ | with_reducible refine below_drewN ?_ _ | exact Below.refl _ _ | assumption | refine Below.drew ?_ | refine below_drewN ?_ _ | refine Below.alloc ?_ (by first | omega | (simp; done) | (simp; omega)) _ | refine Below.setCell ?_ (by first | omega | (simp; done) | (simp; omega)) _))⟩
  have q0 : (AF.2 != 0) = false := bneI_f hc
  have HA := hide (HI.out.trans (if_pos hc))
  obtain ⟨hv, hf, hr, -, -, -⟩ := OK.out hc
  have HV := hide hv; have HF := hide hf; have HRG := hide hr; clear hc hv hf hr
  have le := HE1.out.lt; have lp := HP1.out.lt
  by_cases k1 : ek = 1
  ·
    have q1 : (ek == 1) = true := beqI_t k1
    have HK1 := hide k1; clear k1
    go_wp2
    refine bodyPost_ret (v := .tuple #[.agg #[.int .i64 2, .int .i64 et, .int .i64 ec, .int .i64 ev, .int .i64 0, .int .i64 0, .int .i64 0, .int .i64 0, .int .i64 0], .int .i64 0]) (by simp [results, Tryz.results12, go_sem, kr, fr, lr, lr2]) rfl ?_
    have hb := HB1.out
    refine ⟨?_, (by repeat (first | with_reducible exact Below.refl _ _ | with_reducible assumption | with_reducible refine Below.setCell ?_ (by first | omega | (simp; done) | (simp; omega)) _ | with_reducible refine Below.alloc ?_ (by first | omega | (simp; done) | (simp; omega)) _ | with_reducible refine Below.drew ?_ | with_reducible refine below_drewN ?_ _ | exact Below.refl _ _ | assumption | refine Below.drew ?_ | refine below_drewN ?_ _ | refine Below.alloc ?_ (by first | omega | (simp; done) | (simp; omega)) _ | refine Below.setCell ?_ (by first | omega | (simp; done) | (simp; omega)) _))⟩
    rw [HA.out]; unfold invertF; rw [if_pos HK1.out]; rfl
  have q1 : (ek == 1) = false := beqI_f k1
  have le2 : w.heap.size + 1 < wA.heap.size + 1 := by omega
  have lp2 : w.heap.size < wA.heap.size + 1 := by omega
  have KN1 := hide k1
  by_cases k2 : ek = 2
  ·
    have q2 : (ek == 2) = true := beqI_t k2
    have HK2 := hide k2
    have k5 : (⟨ek, et, ec, ev, ⟨ns, nf, nl, na, ng⟩⟩ : GEdit).fKind ≠ 5 := by show ek ≠ 5; omega
    obtain ⟨k, t, hk, ht⟩ := range_track HRG.out k5
    obtain rfl : et = (k : Int) := hk
    have hlt : k < x.fTracks.length := (List.getElem?_eq_some_iff.1 ht).1
    have hr := HRG.out; unfold RangeOk at hr; rw [if_neg k5] at hr
    have hr := hr.2; dsimp only at hr; rw [clipsAt_of ht] at hr
    have hj : 0 ≤ ec ∧ ec ≤ (t.fClips.length : Int) - 1 := by
      rw [if_neg (by omega), if_neg (by omega), if_pos (by omega)] at hr; exact inB_iff.1 hr
    obtain ⟨j, rfl⟩ : ∃ j : Nat, ec = (j : Int) := ⟨ec.toNat, by omega⟩
    have hjl : j < t.fClips.length := by omega
    have hgj := List.getElem?_eq_getElem hjl
    generalize t.fClips[j] = c at hgj
    have hca : clipAt x ⟨ek, (k : Int), (j : Int), ev, ⟨ns, nf, nl, na, ng⟩⟩ = c := by unfold clipAt; dsimp only; rw [clipsAt_of ht, Int.toNat_natCast, List.getD_eq_getElem?_getD, hgj]; rfl
    have HCA := hide hca; clear hca hr
    obtain ⟨b, off, cs1, hA, hb1, hcs, hcell⟩ := HX2.out k t ht
    subst hA
    have HBr := hide (Below.refl w.heap.size w)
    obtain ⟨u0, rfl, hRY0⟩ := GTrack.rd_open (show T.rds _ _ _ by simpa only [GTrack.t, T.rd] using hcs)
    have d0 := (HBr.out.cell hb1).trans (hcell 0 (u0) rfl)
    rw [show off + (k * 1 + 0) = off + k by omega] at d0
    have RY0 := hide (T.rd_below hRY0 HBr.out); clear hRY0
    clear hcs hcell
    obtain ⟨ua0, uc0, rfl, ul0, um0, ux0⟩ := T.rd_openG RY0.out
    obtain ⟨b2, of2, cs2, hA2, hb2, hcs2, hcell2⟩ := ux0 j c hgj
    subst hA2
    obtain rfl := GClip.rd_open (show T.rds _ _ _ by simpa only [GClip.t, T.rd] using hcs2)
    have e0 := (HBr.out.cell hb2).trans (hcell2 0 (.int .i64 c.fSource) rfl)
    have e1 := (HBr.out.cell hb2).trans (hcell2 1 (.int .i64 c.fFrom) rfl)
    have e2 := (HBr.out.cell hb2).trans (hcell2 2 (.int .i64 c.fLength) rfl)
    have e3 := (HBr.out.cell hb2).trans (hcell2 3 (.int .i64 c.fAt) rfl)
    have e4 := (HBr.out.cell hb2).trans (hcell2 4 (.int .i64 c.fGain) rfl)
    rw [show of2 + (j * 5 + 0) = of2 + j * 5 by omega] at e0
    rw [show of2 + (j * 5 + 1) = of2 + j * 5 + 1 by omega] at e1
    rw [show of2 + (j * 5 + 2) = of2 + j * 5 + 2 by omega] at e2
    rw [show of2 + (j * 5 + 3) = of2 + j * 5 + 3 by omega] at e3
    rw [show of2 + (j * 5 + 4) = of2 + j * 5 + 4 by omega] at e4
    clear hcs2 hcell2
    clear ux0 HBr
    have hi0 : (0 : Int) ≤ (k : Int) := by omega
    have hi1 : (k : Int) < (x.fTracks.length : Int) := by omega
    have hi2 : (0 : Int) ≤ (j : Int) := by omega
    have hi3 : (j : Int) < (t.fClips.length : Int) := by omega
    have HBX := hide ((HB1.out.alloc HB1.out.size (.cells #[.int .i64 AF.1.fLength, .slice A1 L1 C1, .slice A2 L2 C2, .slice A3 L3 C3, .slice A4 L4 C4, .slice A5 L5 C5] 32)).alloc (Nat.le_trans HB1.out.size (by simp)) (.cells #[.int .i64 ek, .int .i64 (k : Int), .int .i64 (j : Int), .int .i64 ev, .int .i64 ns, .int .i64 nf, .int .i64 nl, .int .i64 na, .int .i64 ng] 41))
    clear k2
    go_wp2
    have m0 := (HBX.out.cell hb1).trans d0
    have m1 := (HBX.out.cell hb2).trans e0
    have m2 := (HBX.out.cell hb2).trans e1
    have m3 := (HBX.out.cell hb2).trans e2
    have m4 := (HBX.out.cell hb2).trans e3
    have m5 := (HBX.out.cell hb2).trans e4
    have hpx := ((HP1.out.alloc (.cells #[.int .i64 AF.1.fLength, .slice A1 L1 C1, .slice A2 L2 C2, .slice A3 L3 C3, .slice A4 L4 C4, .slice A5 L5 C5] 32)).alloc (.cells #[.int .i64 ek, .int .i64 (k : Int), .int .i64 (j : Int), .int .i64 ev, .int .i64 ns, .int .i64 nf, .int .i64 nl, .int .i64 na, .int .i64 ng] 41)).cell; have hex := ((HE1.out.alloc (.cells #[.int .i64 AF.1.fLength, .slice A1 L1 C1, .slice A2 L2 C2, .slice A3 L3 C3, .slice A4 L4 C4, .slice A5 L5 C5] 32)).alloc (.cells #[.int .i64 ek, .int .i64 (k : Int), .int .i64 (j : Int), .int .i64 ev, .int .i64 ns, .int .i64 nf, .int .i64 nl, .int .i64 na, .int .i64 ng] 41)).cell
    have HCC := hide (Bk.born1' wA (.cells #[.int .i64 AF.1.fLength, .slice A1 L1 C1, .slice A2 L2 C2, .slice A3 L3 C3, .slice A4 L4 C4, .slice A5 L5 C5] 32) 41 #[.int .i64 ek, .int .i64 (k : Int), .int .i64 (j : Int), .int .i64 ev, .int .i64 ns, .int .i64 nf, .int .i64 nl, .int .i64 na, .int .i64 ng])
    have HPX := hide ((HP1.out.alloc (.cells #[.int .i64 AF.1.fLength, .slice A1 L1 C1, .slice A2 L2 C2, .slice A3 L3 C3, .slice A4 L4 C4, .slice A5 L5 C5] 32)).alloc (.cells #[.int .i64 ek, .int .i64 (k : Int), .int .i64 (j : Int), .int .i64 ev, .int .i64 ns, .int .i64 nf, .int .i64 nl, .int .i64 na, .int .i64 ng] 41)); have HEX := hide ((HE1.out.alloc (.cells #[.int .i64 AF.1.fLength, .slice A1 L1 C1, .slice A2 L2 C2, .slice A3 L3 C3, .slice A4 L4 C4, .slice A5 L5 C5] 32)).alloc (.cells #[.int .i64 ek, .int .i64 (k : Int), .int .i64 (j : Int), .int .i64 ev, .int .i64 ns, .int .i64 nf, .int .i64 nl, .int .i64 na, .int .i64 ng] 41)); have HRX := hide ((HR1.out.alloc (.cells #[.int .i64 AF.1.fLength, .slice A1 L1 C1, .slice A2 L2 C2, .slice A3 L3 C3, .slice A4 L4 C4, .slice A5 L5 C5] 32)).alloc (.cells #[.int .i64 ek, .int .i64 (k : Int), .int .i64 (j : Int), .int .i64 ev, .int .i64 ns, .int .i64 nf, .int .i64 nl, .int .i64 na, .int .i64 ng] 41))
    clear kr fr lr
    generalize hW4 : ((wA.alloc (.cells #[.int .i64 AF.1.fLength, .slice A1 L1 C1, .slice A2 L2 C2, .slice A3 L3 C3, .slice A4 L4 C4, .slice A5 L5 C5] 32)).alloc (.cells #[.int .i64 ek, .int .i64 (k : Int), .int .i64 (j : Int), .int .i64 ev, .int .i64 ns, .int .i64 nf, .int .i64 nl, .int .i64 na, .int .i64 ng] 41)) = W4 at *
    clear hW4
    have kcc := HCC.out.cell; have fcc := HCC.out.free; have lcc := HCC.out.lt
    have kr := HRX.out.cell; have fr := HRX.out.free; have lr := HRX.out.lt
    have nb1 : ¬ wA.heap.size + 1 = b := by omega
    have nb2 : ¬ wA.heap.size + 1 = b2 := by omega
    have nb1' : ¬ b = wA.heap.size + 1 := by omega
    have nb2' : ¬ b2 = wA.heap.size + 1 := by omega
    have nb5 : ¬ wA.heap.size + 1 = w.heap.size := by omega
    have nb6 : ¬ wA.heap.size + 1 = w.heap.size + 1 := by omega
    have nb7 : ¬ w.heap.size = wA.heap.size + 1 := by omega
    have nb8 : ¬ w.heap.size + 1 = wA.heap.size + 1 := by omega
    have nb9 : ¬ w.heap.size + 1 + 1 = wA.heap.size + 1 := by omega
    have nb10 : ¬ wA.heap.size + 1 = w.heap.size + 1 + 1 := by omega
    have kk : (fun w' => (∀ i, w'.cell? ⟨w.heap.size, i, none⟩ = #[.int .i64 x.fLength, (.slice va1 x.fSources.length vc1), (.slice (some ⟨b, off, none⟩) x.fTracks.length vc2), (.slice va3 x.fFeeds.length vc3), (.slice va4 x.fEffects.length vc4), (.slice va5 x.fMixer.fStrips.length vc5)][i]?) ∧ (∀ i, w'.cell? ⟨w.heap.size + 1, i, none⟩ = #[.int .i64 ek, .int .i64 (k : Int), .int .i64 (j : Int), .int .i64 ev, .int .i64 ns, .int .i64 nf, .int .i64 nl, .int .i64 na, .int .i64 ng][i]?) ∧ w'.cell? ⟨b, off + k, none⟩ = some (.slice (some ⟨b2, of2, none⟩) t.fClips.length uc0) ∧ w'.cell? ⟨b2, of2 + j * 5, none⟩ = some (.int .i64 c.fSource) ∧ w'.cell? ⟨b2, of2 + j * 5 + 1, none⟩ = some (.int .i64 c.fFrom) ∧ w'.cell? ⟨b2, of2 + j * 5 + 2, none⟩ = some (.int .i64 c.fLength) ∧ w'.cell? ⟨b2, of2 + j * 5 + 3, none⟩ = some (.int .i64 c.fAt) ∧ w'.cell? ⟨b2, of2 + j * 5 + 4, none⟩ = some (.int .i64 c.fGain)) W4 := ⟨HPX.out.cell, HEX.out.cell, m0, m1, m2, m3, m4, m5⟩
    go_region_held3 (fun w' => (∀ i, w'.cell? ⟨w.heap.size, i, none⟩ = #[.int .i64 x.fLength, (.slice va1 x.fSources.length vc1), (.slice (some ⟨b, off, none⟩) x.fTracks.length vc2), (.slice va3 x.fFeeds.length vc3), (.slice va4 x.fEffects.length vc4), (.slice va5 x.fMixer.fStrips.length vc5)][i]?) ∧ (∀ i, w'.cell? ⟨w.heap.size + 1, i, none⟩ = #[.int .i64 ek, .int .i64 (k : Int), .int .i64 (j : Int), .int .i64 ev, .int .i64 ns, .int .i64 nf, .int .i64 nl, .int .i64 na, .int .i64 ng][i]?) ∧ w'.cell? ⟨b, off + k, none⟩ = some (.slice (some ⟨b2, of2, none⟩) t.fClips.length uc0) ∧ w'.cell? ⟨b2, of2 + j * 5, none⟩ = some (.int .i64 c.fSource) ∧ w'.cell? ⟨b2, of2 + j * 5 + 1, none⟩ = some (.int .i64 c.fFrom) ∧ w'.cell? ⟨b2, of2 + j * 5 + 2, none⟩ = some (.int .i64 c.fLength) ∧ w'.cell? ⟨b2, of2 + j * 5 + 3, none⟩ = some (.int .i64 c.fAt) ∧ w'.cell? ⟨b2, of2 + j * 5 + 4, none⟩ = some (.int .i64 c.fGain)) ((((try simp only [World.cell?_drew])); first | with_reducible exact ⟨HPX.out.cell, HEX.out.cell, m0, m1, m2, m3, m4, m5⟩ | with_reducible exact ⟨(HPX.out.far (p := ⟨wA.heap.size + 1, 0, none⟩) nb7 _).cell, (HEX.out.far (p := ⟨wA.heap.size + 1, 0, none⟩) nb8 _).cell, (World.cell?_setCell_far _ _ _ _ nb1).trans m0, (World.cell?_setCell_far _ _ _ _ nb2).trans m1, (World.cell?_setCell_far _ _ _ _ nb2).trans m2, (World.cell?_setCell_far _ _ _ _ nb2).trans m3, (World.cell?_setCell_far _ _ _ _ nb2).trans m4, (World.cell?_setCell_far _ _ _ _ nb2).trans m5⟩ | with_reducible exact ⟨((((((HPX.out.far (p := ⟨wA.heap.size + 1, 0, none⟩) nb7 (.int .i64 1)).far (p := ⟨wA.heap.size + 1, 4, none⟩) nb7 (.int .i64 c.fSource)).far (p := ⟨wA.heap.size + 1, 5, none⟩) nb7 (.int .i64 c.fFrom)).far (p := ⟨wA.heap.size + 1, 6, none⟩) nb7 (.int .i64 c.fLength)).far (p := ⟨wA.heap.size + 1, 7, none⟩) nb7 (.int .i64 c.fAt)).far (p := ⟨wA.heap.size + 1, 8, none⟩) nb7 (.int .i64 c.fGain)).cell, ((((((HEX.out.far (p := ⟨wA.heap.size + 1, 0, none⟩) nb8 (.int .i64 1)).far (p := ⟨wA.heap.size + 1, 4, none⟩) nb8 (.int .i64 c.fSource)).far (p := ⟨wA.heap.size + 1, 5, none⟩) nb8 (.int .i64 c.fFrom)).far (p := ⟨wA.heap.size + 1, 6, none⟩) nb8 (.int .i64 c.fLength)).far (p := ⟨wA.heap.size + 1, 7, none⟩) nb8 (.int .i64 c.fAt)).far (p := ⟨wA.heap.size + 1, 8, none⟩) nb8 (.int .i64 c.fGain)).cell, (World.cell?_setCell_far _ _ _ _ nb1).trans ((World.cell?_setCell_far _ _ _ _ nb1).trans ((World.cell?_setCell_far _ _ _ _ nb1).trans ((World.cell?_setCell_far _ _ _ _ nb1).trans ((World.cell?_setCell_far _ _ _ _ nb1).trans ((World.cell?_setCell_far _ _ _ _ nb1).trans (m0)))))), (World.cell?_setCell_far _ _ _ _ nb2).trans ((World.cell?_setCell_far _ _ _ _ nb2).trans ((World.cell?_setCell_far _ _ _ _ nb2).trans ((World.cell?_setCell_far _ _ _ _ nb2).trans ((World.cell?_setCell_far _ _ _ _ nb2).trans ((World.cell?_setCell_far _ _ _ _ nb2).trans (m1)))))), (World.cell?_setCell_far _ _ _ _ nb2).trans ((World.cell?_setCell_far _ _ _ _ nb2).trans ((World.cell?_setCell_far _ _ _ _ nb2).trans ((World.cell?_setCell_far _ _ _ _ nb2).trans ((World.cell?_setCell_far _ _ _ _ nb2).trans ((World.cell?_setCell_far _ _ _ _ nb2).trans (m2)))))), (World.cell?_setCell_far _ _ _ _ nb2).trans ((World.cell?_setCell_far _ _ _ _ nb2).trans ((World.cell?_setCell_far _ _ _ _ nb2).trans ((World.cell?_setCell_far _ _ _ _ nb2).trans ((World.cell?_setCell_far _ _ _ _ nb2).trans ((World.cell?_setCell_far _ _ _ _ nb2).trans (m3)))))), (World.cell?_setCell_far _ _ _ _ nb2).trans ((World.cell?_setCell_far _ _ _ _ nb2).trans ((World.cell?_setCell_far _ _ _ _ nb2).trans ((World.cell?_setCell_far _ _ _ _ nb2).trans ((World.cell?_setCell_far _ _ _ _ nb2).trans ((World.cell?_setCell_far _ _ _ _ nb2).trans (m4)))))), (World.cell?_setCell_far _ _ _ _ nb2).trans ((World.cell?_setCell_far _ _ _ _ nb2).trans ((World.cell?_setCell_far _ _ _ _ nb2).trans ((World.cell?_setCell_far _ _ _ _ nb2).trans ((World.cell?_setCell_far _ _ _ _ nb2).trans ((World.cell?_setCell_far _ _ _ _ nb2).trans (m5))))))⟩ | (trace_state; fail))) (fail)
    clear kk m0 m1 m2 m3 m4 m5 hpx hex kp ke
    have c0 := kcc 0; have c1 := kcc 1; have c2 := kcc 2; have c3 := kcc 3; have c4 := kcc 4; have c5 := kcc 5; have c6 := kcc 6; have c7 := kcc 7; have c8 := kcc 8; clear kcc
    go_wp2
    have hwb : w.heap.size ≤ wA.heap.size + 1 := by omega
    have hbx := HBX.out
    refine bodyPost_ret (v := .tuple #[.agg #[.int .i64 1, .int .i64 (k : Int), .int .i64 (j : Int), .int .i64 ev, .int .i64 c.fSource, .int .i64 c.fFrom, .int .i64 c.fLength, .int .i64 c.fAt, .int .i64 c.fGain], .int .i64 0]) (by simp [results, Tryz.results12, go_sem, kr, fr, lr, lr2]) rfl ?_
    have hb := HBX.out
    refine ⟨?_, (by repeat (first | with_reducible exact Below.refl _ _ | with_reducible assumption | with_reducible refine Below.setCell ?_ (by first | omega | (simp; done) | (simp; omega)) _ | with_reducible refine Below.alloc ?_ (by first | omega | (simp; done) | (simp; omega)) _ | with_reducible refine Below.drew ?_ | with_reducible refine below_drewN ?_ _ | exact Below.refl _ _ | assumption | refine Below.drew ?_ | refine below_drewN ?_ _ | refine Below.alloc ?_ (by first | omega | (simp; done) | (simp; omega)) _ | refine Below.setCell ?_ (by first | omega | (simp; done) | (simp; omega)) _))⟩
    rw [HA.out]; unfold invertF; rw [if_neg KN1.out, if_pos HK2.out, HCA.out]; rfl
  have q2 : (ek == 2) = false := beqI_f k2
  have KN2 := hide k2
  by_cases k3 : ek = 3
  ·
    have q3 : (ek == 3) = true := beqI_t k3
    have HK2 := hide k3
    have k5 : (⟨ek, et, ec, ev, ⟨ns, nf, nl, na, ng⟩⟩ : GEdit).fKind ≠ 5 := by show ek ≠ 5; omega
    obtain ⟨k, t, hk, ht⟩ := range_track HRG.out k5
    obtain rfl : et = (k : Int) := hk
    have hlt : k < x.fTracks.length := (List.getElem?_eq_some_iff.1 ht).1
    have hr := HRG.out; unfold RangeOk at hr; rw [if_neg k5] at hr
    have hr := hr.2; dsimp only at hr; rw [clipsAt_of ht] at hr
    have hj : 0 ≤ ec ∧ ec ≤ (t.fClips.length : Int) - 1 := by
      rw [if_neg (by omega), if_pos (by omega)] at hr; exact inB_iff.1 hr.1
    obtain ⟨j, rfl⟩ : ∃ j : Nat, ec = (j : Int) := ⟨ec.toNat, by omega⟩
    have hjl : j < t.fClips.length := by omega
    have hgj := List.getElem?_eq_getElem hjl
    generalize t.fClips[j] = c at hgj
    have hca : clipAt x ⟨ek, (k : Int), (j : Int), ev, ⟨ns, nf, nl, na, ng⟩⟩ = c := by unfold clipAt; dsimp only; rw [clipsAt_of ht, Int.toNat_natCast, List.getD_eq_getElem?_getD, hgj]; rfl
    have HCA := hide hca; clear hca hr
    obtain ⟨b, off, cs1, hA, hb1, hcs, hcell⟩ := HX2.out k t ht
    subst hA
    have HBr := hide (Below.refl w.heap.size w)
    obtain ⟨u0, rfl, hRY0⟩ := GTrack.rd_open (show T.rds _ _ _ by simpa only [GTrack.t, T.rd] using hcs)
    have d0 := (HBr.out.cell hb1).trans (hcell 0 (u0) rfl)
    rw [show off + (k * 1 + 0) = off + k by omega] at d0
    have RY0 := hide (T.rd_below hRY0 HBr.out); clear hRY0
    clear hcs hcell
    obtain ⟨ua0, uc0, rfl, ul0, um0, ux0⟩ := T.rd_openG RY0.out
    obtain ⟨b2, of2, cs2, hA2, hb2, hcs2, hcell2⟩ := ux0 j c hgj
    subst hA2
    obtain rfl := GClip.rd_open (show T.rds _ _ _ by simpa only [GClip.t, T.rd] using hcs2)
    have e0 := (HBr.out.cell hb2).trans (hcell2 0 (.int .i64 c.fSource) rfl)
    have e1 := (HBr.out.cell hb2).trans (hcell2 1 (.int .i64 c.fFrom) rfl)
    have e2 := (HBr.out.cell hb2).trans (hcell2 2 (.int .i64 c.fLength) rfl)
    have e3 := (HBr.out.cell hb2).trans (hcell2 3 (.int .i64 c.fAt) rfl)
    have e4 := (HBr.out.cell hb2).trans (hcell2 4 (.int .i64 c.fGain) rfl)
    rw [show of2 + (j * 5 + 0) = of2 + j * 5 by omega] at e0
    rw [show of2 + (j * 5 + 1) = of2 + j * 5 + 1 by omega] at e1
    rw [show of2 + (j * 5 + 2) = of2 + j * 5 + 2 by omega] at e2
    rw [show of2 + (j * 5 + 3) = of2 + j * 5 + 3 by omega] at e3
    rw [show of2 + (j * 5 + 4) = of2 + j * 5 + 4 by omega] at e4
    clear hcs2 hcell2
    clear ux0 HBr
    have hi0 : (0 : Int) ≤ (k : Int) := by omega
    have hi1 : (k : Int) < (x.fTracks.length : Int) := by omega
    have hi2 : (0 : Int) ≤ (j : Int) := by omega
    have hi3 : (j : Int) < (t.fClips.length : Int) := by omega
    have HBX := hide ((HB1.out.alloc HB1.out.size (.cells #[.int .i64 AF.1.fLength, .slice A1 L1 C1, .slice A2 L2 C2, .slice A3 L3 C3, .slice A4 L4 C4, .slice A5 L5 C5] 32)).alloc (Nat.le_trans HB1.out.size (by simp)) (.cells #[.int .i64 ek, .int .i64 (k : Int), .int .i64 (j : Int), .int .i64 ev, .int .i64 ns, .int .i64 nf, .int .i64 nl, .int .i64 na, .int .i64 ng] 41))
    clear k3
    go_wp2
    have m0 := (HBX.out.cell hb1).trans d0
    have m1 := (HBX.out.cell hb2).trans e0
    have m2 := (HBX.out.cell hb2).trans e1
    have m3 := (HBX.out.cell hb2).trans e2
    have m4 := (HBX.out.cell hb2).trans e3
    have m5 := (HBX.out.cell hb2).trans e4
    have hpx := ((HP1.out.alloc (.cells #[.int .i64 AF.1.fLength, .slice A1 L1 C1, .slice A2 L2 C2, .slice A3 L3 C3, .slice A4 L4 C4, .slice A5 L5 C5] 32)).alloc (.cells #[.int .i64 ek, .int .i64 (k : Int), .int .i64 (j : Int), .int .i64 ev, .int .i64 ns, .int .i64 nf, .int .i64 nl, .int .i64 na, .int .i64 ng] 41)).cell; have hex := ((HE1.out.alloc (.cells #[.int .i64 AF.1.fLength, .slice A1 L1 C1, .slice A2 L2 C2, .slice A3 L3 C3, .slice A4 L4 C4, .slice A5 L5 C5] 32)).alloc (.cells #[.int .i64 ek, .int .i64 (k : Int), .int .i64 (j : Int), .int .i64 ev, .int .i64 ns, .int .i64 nf, .int .i64 nl, .int .i64 na, .int .i64 ng] 41)).cell
    have HCC := hide (Bk.born1' wA (.cells #[.int .i64 AF.1.fLength, .slice A1 L1 C1, .slice A2 L2 C2, .slice A3 L3 C3, .slice A4 L4 C4, .slice A5 L5 C5] 32) 41 #[.int .i64 ek, .int .i64 (k : Int), .int .i64 (j : Int), .int .i64 ev, .int .i64 ns, .int .i64 nf, .int .i64 nl, .int .i64 na, .int .i64 ng])
    have HPX := hide ((HP1.out.alloc (.cells #[.int .i64 AF.1.fLength, .slice A1 L1 C1, .slice A2 L2 C2, .slice A3 L3 C3, .slice A4 L4 C4, .slice A5 L5 C5] 32)).alloc (.cells #[.int .i64 ek, .int .i64 (k : Int), .int .i64 (j : Int), .int .i64 ev, .int .i64 ns, .int .i64 nf, .int .i64 nl, .int .i64 na, .int .i64 ng] 41)); have HEX := hide ((HE1.out.alloc (.cells #[.int .i64 AF.1.fLength, .slice A1 L1 C1, .slice A2 L2 C2, .slice A3 L3 C3, .slice A4 L4 C4, .slice A5 L5 C5] 32)).alloc (.cells #[.int .i64 ek, .int .i64 (k : Int), .int .i64 (j : Int), .int .i64 ev, .int .i64 ns, .int .i64 nf, .int .i64 nl, .int .i64 na, .int .i64 ng] 41)); have HRX := hide ((HR1.out.alloc (.cells #[.int .i64 AF.1.fLength, .slice A1 L1 C1, .slice A2 L2 C2, .slice A3 L3 C3, .slice A4 L4 C4, .slice A5 L5 C5] 32)).alloc (.cells #[.int .i64 ek, .int .i64 (k : Int), .int .i64 (j : Int), .int .i64 ev, .int .i64 ns, .int .i64 nf, .int .i64 nl, .int .i64 na, .int .i64 ng] 41))
    clear kr fr lr
    generalize hW4 : ((wA.alloc (.cells #[.int .i64 AF.1.fLength, .slice A1 L1 C1, .slice A2 L2 C2, .slice A3 L3 C3, .slice A4 L4 C4, .slice A5 L5 C5] 32)).alloc (.cells #[.int .i64 ek, .int .i64 (k : Int), .int .i64 (j : Int), .int .i64 ev, .int .i64 ns, .int .i64 nf, .int .i64 nl, .int .i64 na, .int .i64 ng] 41)) = W4 at *
    clear hW4
    have kcc := HCC.out.cell; have fcc := HCC.out.free; have lcc := HCC.out.lt
    have kr := HRX.out.cell; have fr := HRX.out.free; have lr := HRX.out.lt
    have nb1 : ¬ wA.heap.size + 1 = b := by omega
    have nb2 : ¬ wA.heap.size + 1 = b2 := by omega
    have nb1' : ¬ b = wA.heap.size + 1 := by omega
    have nb2' : ¬ b2 = wA.heap.size + 1 := by omega
    have nb5 : ¬ wA.heap.size + 1 = w.heap.size := by omega
    have nb6 : ¬ wA.heap.size + 1 = w.heap.size + 1 := by omega
    have nb7 : ¬ w.heap.size = wA.heap.size + 1 := by omega
    have nb8 : ¬ w.heap.size + 1 = wA.heap.size + 1 := by omega
    have nb9 : ¬ w.heap.size + 1 + 1 = wA.heap.size + 1 := by omega
    have nb10 : ¬ wA.heap.size + 1 = w.heap.size + 1 + 1 := by omega
    refine wp_region_still_tail 12 (by kernel_rfl) (by kernel_rfl) ?_
    simp only [List.take_succ_cons, List.take_zero, List.drop_succ_cons, List.drop_zero]
    have hpx' := hpx; have hex' := hex
    change wpStill _ _ (World.drew W4) (fun a' => wpList _ _ _ _ a' (World.drew W4)) _ _
    repeat still_step
    refine wpStill_nil ?_
    clear m0 m1 m2 m3 m4 m5 hpx hex hpx' hex'
    go_wp2
    have hwb : w.heap.size ≤ wA.heap.size + 1 := by omega
    have hbx := HBX.out
    refine bodyPost_ret (v := .tuple #[.agg #[.int .i64 ek, .int .i64 (k : Int), .int .i64 (j : Int), .int .i64 ev, .int .i64 c.fSource, .int .i64 c.fFrom, .int .i64 c.fLength, .int .i64 c.fAt, .int .i64 c.fGain], .int .i64 0]) (by simp [results, Tryz.results12, go_sem, kr, fr, lr, lr2]) rfl ?_
    have hb := HBX.out
    refine ⟨?_, (by repeat (first | with_reducible exact Below.refl _ _ | with_reducible assumption | with_reducible refine Below.setCell ?_ (by first | omega | (simp; done) | (simp; omega)) _ | with_reducible refine Below.alloc ?_ (by first | omega | (simp; done) | (simp; omega)) _ | with_reducible refine Below.drew ?_ | with_reducible refine below_drewN ?_ _ | exact Below.refl _ _ | assumption | refine Below.drew ?_ | refine below_drewN ?_ _ | refine Below.alloc ?_ (by first | omega | (simp; done) | (simp; omega)) _ | refine Below.setCell ?_ (by first | omega | (simp; done) | (simp; omega)) _))⟩
    rw [HA.out]; unfold invertF; rw [if_neg KN1.out, if_neg KN2.out, if_pos HK2.out, HCA.out]; rfl
  have q3 : (ek == 3) = false := beqI_f k3
  have KN3 := hide k3
  by_cases k4 : ek = 4
  ·
    have q4 : (ek == 4) = true := beqI_t k4
    have HK4 := hide k4
    have k5 : (⟨ek, et, ec, ev, ⟨ns, nf, nl, na, ng⟩⟩ : GEdit).fKind ≠ 5 := by show ek ≠ 5; omega
    obtain ⟨k, t, hk, ht⟩ := range_track HRG.out k5
    obtain rfl : et = (k : Int) := hk
    have hlt : k < x.fTracks.length := (List.getElem?_eq_some_iff.1 ht).1
    have hr := HRG.out; unfold RangeOk at hr; rw [if_neg k5] at hr
    have hr := hr.2; dsimp only at hr; rw [clipsAt_of ht] at hr
    have hlf : k < x.fFeeds.length := by have h2 := HV.out.feed; omega
    have hgk := List.getElem?_eq_getElem hlf
    have hfd : x.fFeeds.getD k 0 = x.fFeeds[k] := by rw [List.getD_eq_getElem?_getD, hgk]; rfl
    generalize x.fFeeds[k] = y at *
    have HFD := hide hfd; clear hfd hr k4 k5
    obtain ⟨b, off, hA, hb1, hcell⟩ := HX3.out k y hgk
    subst hA
    have hi0 : (0 : Int) ≤ (k : Int) := by omega
    have hi1 : (k : Int) < (x.fFeeds.length : Int) := by omega
    have HBX := hide ((HB1.out.alloc HB1.out.size (.cells #[.int .i64 AF.1.fLength, .slice A1 L1 C1, .slice A2 L2 C2, .slice A3 L3 C3, .slice A4 L4 C4, .slice A5 L5 C5] 32)).alloc (Nat.le_trans HB1.out.size (by simp)) (.cells #[.int .i64 ek, .int .i64 (k : Int), .int .i64 ec, .int .i64 ev, .int .i64 ns, .int .i64 nf, .int .i64 nl, .int .i64 na, .int .i64 ng] 41))
    have m0 := (HBX.out.cell hb1).trans hcell
    have hpx := ((HP1.out.alloc (.cells #[.int .i64 AF.1.fLength, .slice A1 L1 C1, .slice A2 L2 C2, .slice A3 L3 C3, .slice A4 L4 C4, .slice A5 L5 C5] 32)).alloc (.cells #[.int .i64 ek, .int .i64 (k : Int), .int .i64 ec, .int .i64 ev, .int .i64 ns, .int .i64 nf, .int .i64 nl, .int .i64 na, .int .i64 ng] 41)).cell; have hex := ((HE1.out.alloc (.cells #[.int .i64 AF.1.fLength, .slice A1 L1 C1, .slice A2 L2 C2, .slice A3 L3 C3, .slice A4 L4 C4, .slice A5 L5 C5] 32)).alloc (.cells #[.int .i64 ek, .int .i64 (k : Int), .int .i64 ec, .int .i64 ev, .int .i64 ns, .int .i64 nf, .int .i64 nl, .int .i64 na, .int .i64 ng] 41)).cell
    go_wp2
    have hbx := HBX.out
    refine bodyPost_ret (v := .tuple #[.agg #[.int .i64 ek, .int .i64 (k : Int), .int .i64 ec, .int .i64 y, .int .i64 ns, .int .i64 nf, .int .i64 nl, .int .i64 na, .int .i64 ng], .int .i64 0]) (by simp [results, Tryz.results12, go_sem, kr, fr, lr, lr2]) rfl ?_
    have hb := HB1.out
    refine ⟨?_, (by repeat (first | with_reducible exact Below.refl _ _ | with_reducible assumption | with_reducible refine Below.setCell ?_ (by first | omega | (simp; done) | (simp; omega)) _ | with_reducible refine Below.alloc ?_ (by first | omega | (simp; done) | (simp; omega)) _ | with_reducible refine Below.drew ?_ | with_reducible refine below_drewN ?_ _ | exact Below.refl _ _ | assumption | refine Below.drew ?_ | refine below_drewN ?_ _ | refine Below.alloc ?_ (by first | omega | (simp; done) | (simp; omega)) _ | refine Below.setCell ?_ (by first | omega | (simp; done) | (simp; omega)) _))⟩
    rw [HA.out]; unfold invertF; rw [if_neg KN1.out, if_neg KN2.out, if_neg KN3.out, if_pos HK4.out]; dsimp only [Int.toNat_natCast]; rw [HFD.out]; rfl
  have q4 : (ek == 4) = false := beqI_f k4
  have KN4 := hide k4
  have hff := HF.out; unfold FieldsOk at hff; dsimp only at hff
  rw [if_neg (by omega), if_neg (by omega), if_neg (by omega)] at hff
  by_cases k5 : ek = 5
  rotate_left
  ·
    rw [if_neg k5] at hff; exact hff.elim
  clear hff
  have q5 : (ek == 5) = true := beqI_t k5
  have hr := HRG.out; unfold RangeOk at hr; rw [if_pos k5] at hr
  obtain ⟨r1, r2, -⟩ := hr
  have i1 := inB_iff.1 r1
  obtain ⟨k, rfl⟩ : ∃ k : Nat, et = (k : Int) := ⟨et.toNat, by dsimp only at i1; omega⟩
  have hlt : k < x.fMixer.fStrips.length := by dsimp only at i1; omega
  have hgk := List.getElem?_eq_getElem hlt
  generalize x.fMixer.fStrips[k] = y at hgk
  dsimp only at r2
  rw [sendsAt_of hgk] at r2
  have i2 := inB_iff.1 r2
  obtain ⟨j, rfl⟩ : ∃ j : Nat, ec = (j : Int) := ⟨ec.toNat, by omega⟩
  have hjl : j < y.fSends.length := by omega
  have hgj := List.getElem?_eq_getElem hjl
  generalize y.fSends[j] = z at hgj
  have hsd : (sendsAt x (k : Int)).getD j ⟨0, 0⟩ = z := by rw [sendsAt_of hgk, List.getD_eq_getElem?_getD, hgj]; rfl
  have HSD := hide hsd; clear hsd k5 r1 r2
  obtain ⟨b, off, cs1, hA, hb1, hcs, hcell⟩ := HX5.out k y hgk
  subst hA
  have HBr := hide (Below.refl w.heap.size w)
  obtain ⟨u2, rfl, hRY2⟩ := GStrip.rd_open (show T.rds _ _ _ by simpa only [GStrip.t, T.rd] using hcs)
  have d0 := (HBr.out.cell hb1).trans (hcell 0 (.string y.fName) rfl)
  have d1 := (HBr.out.cell hb1).trans (hcell 1 (.int .i64 y.fLatency) rfl)
  have d2 := (HBr.out.cell hb1).trans (hcell 2 (u2) rfl)
  rw [show off + (k * 3 + 0) = off + k * 3 by omega] at d0
  rw [show off + (k * 3 + 1) = off + k * 3 + 1 by omega] at d1
  rw [show off + (k * 3 + 2) = off + k * 3 + 2 by omega] at d2
  have RY2 := hide (T.rd_below hRY2 HBr.out); clear hRY2
  clear hcs hcell
  obtain ⟨ua2, uc2, rfl, ul2, um2, ux2⟩ := T.rd_openG RY2.out
  obtain ⟨b2, of2, cs2, hA2, hb2, hcs2, hcell2⟩ := ux2 j z hgj
  subst hA2
  obtain rfl := GSend.rd_open (show T.rds _ _ _ by simpa only [GSend.t, T.rd] using hcs2)
  have e0 := (HBr.out.cell hb2).trans (hcell2 0 (.int .i64 z.fTo) rfl)
  have e1 := (HBr.out.cell hb2).trans (hcell2 1 (.int .i64 z.fGain) rfl)
  rw [show of2 + (j * 2 + 0) = of2 + j * 2 by omega] at e0
  rw [show of2 + (j * 2 + 1) = of2 + j * 2 + 1 by omega] at e1
  clear hcs2 hcell2
  clear ux2 HBr
  have hi0 : (0 : Int) ≤ (k : Int) := by omega
  have hi1 : (k : Int) < (x.fMixer.fStrips.length : Int) := by dsimp only at i1; omega
  have hi2 : (0 : Int) ≤ (j : Int) := by omega
  have hi3 : (j : Int) < (y.fSends.length : Int) := by omega
  have HBX := hide ((HB1.out.alloc HB1.out.size (.cells #[.int .i64 AF.1.fLength, .slice A1 L1 C1, .slice A2 L2 C2, .slice A3 L3 C3, .slice A4 L4 C4, .slice A5 L5 C5] 32)).alloc (Nat.le_trans HB1.out.size (by simp)) (.cells #[.int .i64 ek, .int .i64 (k : Int), .int .i64 (j : Int), .int .i64 ev, .int .i64 ns, .int .i64 nf, .int .i64 nl, .int .i64 na, .int .i64 ng] 41))
  go_wp2
  have m0 := (HBX.out.cell hb1).trans d2; have m1 := (HBX.out.cell hb2).trans e1
  have hpx := ((HP1.out.alloc (.cells #[.int .i64 AF.1.fLength, .slice A1 L1 C1, .slice A2 L2 C2, .slice A3 L3 C3, .slice A4 L4 C4, .slice A5 L5 C5] 32)).alloc (.cells #[.int .i64 ek, .int .i64 (k : Int), .int .i64 (j : Int), .int .i64 ev, .int .i64 ns, .int .i64 nf, .int .i64 nl, .int .i64 na, .int .i64 ng] 41)).cell; have hex := ((HE1.out.alloc (.cells #[.int .i64 AF.1.fLength, .slice A1 L1 C1, .slice A2 L2 C2, .slice A3 L3 C3, .slice A4 L4 C4, .slice A5 L5 C5] 32)).alloc (.cells #[.int .i64 ek, .int .i64 (k : Int), .int .i64 (j : Int), .int .i64 ev, .int .i64 ns, .int .i64 nf, .int .i64 nl, .int .i64 na, .int .i64 ng] 41)).cell
  have HCC := hide (Bk.born1' wA (.cells #[.int .i64 AF.1.fLength, .slice A1 L1 C1, .slice A2 L2 C2, .slice A3 L3 C3, .slice A4 L4 C4, .slice A5 L5 C5] 32) 41 #[.int .i64 ek, .int .i64 (k : Int), .int .i64 (j : Int), .int .i64 ev, .int .i64 ns, .int .i64 nf, .int .i64 nl, .int .i64 na, .int .i64 ng])
  have HRX := hide ((HR1.out.alloc (.cells #[.int .i64 AF.1.fLength, .slice A1 L1 C1, .slice A2 L2 C2, .slice A3 L3 C3, .slice A4 L4 C4, .slice A5 L5 C5] 32)).alloc (.cells #[.int .i64 ek, .int .i64 (k : Int), .int .i64 (j : Int), .int .i64 ev, .int .i64 ns, .int .i64 nf, .int .i64 nl, .int .i64 na, .int .i64 ng] 41))
  clear kr fr lr
  generalize hW4 : ((wA.alloc (.cells #[.int .i64 AF.1.fLength, .slice A1 L1 C1, .slice A2 L2 C2, .slice A3 L3 C3, .slice A4 L4 C4, .slice A5 L5 C5] 32)).alloc (.cells #[.int .i64 ek, .int .i64 (k : Int), .int .i64 (j : Int), .int .i64 ev, .int .i64 ns, .int .i64 nf, .int .i64 nl, .int .i64 na, .int .i64 ng] 41)) = W4 at *
  clear hW4
  have kcc := HCC.out.cell; have fcc := HCC.out.free; have lcc := HCC.out.lt
  have kr := HRX.out.cell; have fr := HRX.out.free; have lr := HRX.out.lt
  have nb9 : ¬ w.heap.size + 1 + 1 = wA.heap.size + 1 := by omega
  have nb10 : ¬ wA.heap.size + 1 = w.heap.size + 1 + 1 := by omega
  refine wp_region_still_tail 14 (by kernel_rfl) (by kernel_rfl) ?_
  simp only [List.take_succ_cons, List.take_zero, List.drop_succ_cons, List.drop_zero]
  change wpStill _ _ (World.drew W4) (fun a' => wpList _ _ _ _ a' (World.drew W4)) _ _
  repeat still_step
  refine wpStill_nil ?_
  clear m0 m1 hpx hex
  go_wp2
  have hwb : w.heap.size ≤ wA.heap.size + 1 := by omega
  have hbx := HBX.out
  refine bodyPost_ret (v := .tuple #[.agg #[.int .i64 ek, .int .i64 (k : Int), .int .i64 (j : Int), .int .i64 z.fGain, .int .i64 ns, .int .i64 nf, .int .i64 nl, .int .i64 na, .int .i64 ng], .int .i64 0]) (by simp [results, Tryz.results12, go_sem, kr, fr, lr, lr2]) rfl ?_
  have hb := HBX.out
  refine ⟨?_, (by repeat (first | with_reducible exact Below.refl _ _ | with_reducible assumption | with_reducible refine Below.setCell ?_ (by first | omega | (simp; done) | (simp; omega)) _ | with_reducible refine Below.alloc ?_ (by first | omega | (simp; done) | (simp; omega)) _ | with_reducible refine Below.drew ?_ | with_reducible refine below_drewN ?_ _ | exact Below.refl _ _ | assumption | refine Below.drew ?_ | refine below_drewN ?_ _ | refine Below.alloc ?_ (by first | omega | (simp; done) | (simp; omega)) _ | refine Below.setCell ?_ (by first | omega | (simp; done) | (simp; omega)) _))⟩
  rw [HA.out]; unfold invertF; rw [if_neg KN1.out, if_neg KN2.out, if_neg KN3.out, if_neg KN4.out]; dsimp only [Int.toNat_natCast]; rw [HSD.out]; rfl
end Go.Proofs.YtgmgjhdckepmmaaGreat
