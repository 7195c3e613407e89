/- Contract: the program's ApplyEdit. -/
import Derived.Test.YtajoaflfjilhmaaGreatQBaExactDirtyRange
set_option linter.unusedVariables false
set_option linter.unusedSimpArgs false
namespace Go.Proofs.YtajoaflfjilhmaaGreat
open Go.RowKit
theorem applyF_session {s : GSession} {e : GEdit} (h : ¬ SessionOk s) : applyF s e = (noSession, 1) := by
  unfold applyF
  rw [if_neg (by rw [tf_no (fun k => h k.1)]; simp)]
set_option maxHeartbeats 8000000 in
set_option maxRecDepth 100000 in
theorem c_iApplyEdit (x : GSession) (cs : List Value) (ed : GEdit) (w : World) (hs : x.small) (h : T.rds w x.fs cs) : Calls Tryz.prog 43 #[.agg cs.toArray, .agg #[.int .i64 ed.fKind, .int .i64 ed.fTrack, .int .i64 ed.fClip, .int .i64 ed.fValue, .int .i64 ed.fNew.fSource, .int .i64 ed.fNew.fFrom, .int .i64 ed.fNew.fLength, .int .i64 ed.fNew.fAt, .int .i64 ed.fNew.fGain]] w fun e w' => ∃ v1 v2 v3 v4 v5 F, e = .returned (.tuple #[.agg #[.int .i64 (applyF x ed).1.fLength, v1, v2, v3, v4, v5], .int .i64 (applyF x ed).2]) ∧ Nw w w' (applyF x ed).1.fs F [.int .i64 (applyF x ed).1.fLength, v1, v2, v3, v4, v5] := by
  obtain ⟨v1, v2, v3, v4, v5, rfl, h1, h2, h3, h4, h5⟩ := GSession.rd_open h
  clear h
  have R1 := hide h1; obtain ⟨va1, vc1, rfl, vl1, vm1, vx1⟩ := T.rd_openG h1
  have HX1 := hide vx1; clear vx1 h1
  have R2 := hide h2; obtain ⟨va2, vc2, rfl, vl2, vm2, vx2⟩ := T.rd_openG h2
  have HX2 := hide vx2; clear vx2 h2
  have h3i := T.rd_ints.1 h3; obtain ⟨va3, vc3, rfl, vl3, vm3, vx3⟩ := h3i.open_
  have R3 := hide h3i; have HX3 := hide vx3; clear vx3 h3 h3i
  have R4 := hide h4; obtain ⟨va4, vc4, rfl, vl4, vm4, vx4⟩ := T.rd_openG h4
  have HX4 := hide vx4; clear vx4 h4
  have R5 := hide h5; obtain ⟨va5, vc5, rfl, vl5, vm5, vx5⟩ := T.rd_openG h5
  have HX5 := hide vx5; clear vx5 h5
  have HB0 := hide (show Below w.heap.size w (w.alloc (.cells #[.int .i64 x.fLength, (.slice va1 x.fSources.length vc1), (.slice va2 x.fTracks.length vc2), (.slice va3 x.fFeeds.length vc3), (.slice va4 x.fEffects.length vc4), (.slice va5 x.fMixer.fStrips.length vc5)] 32)) from (Below.refl _ _).alloc (Nat.le_refl _) _)
  have HK0 := hide (Bk.born w 32 #[.int .i64 x.fLength, (.slice va1 x.fSources.length vc1), (.slice va2 x.fTracks.length vc2), (.slice va3 x.fFeeds.length vc3), (.slice va4 x.fEffects.length vc4), (.slice va5 x.fMixer.fStrips.length vc5)])
  have HSM := hide hs; clear hs
  have GX := hide (show ∀ w', Below w.heap.size w w' → T.rds w' x.fs [.int .i64 x.fLength, (.slice va1 x.fSources.length vc1), (.slice va2 x.fTracks.length vc2), (.slice va3 x.fFeeds.length vc3), (.slice va4 x.fEffects.length vc4), (.slice va5 x.fMixer.fStrips.length vc5)] from fun w' hb => GSession.rd_mk (T.rd_below R1.out hb) (T.rd_below R2.out hb) (T.rd_ints.2 (Rd.below R3.out hb)) (T.rd_below R4.out hb) (T.rd_below R5.out hb))
  have IS := hide (fun (W : World) (hb : Below w.heap.size w W) => c_isSession x _ W HSM.out (GX.out W hb))
  have IA := hide (fun (W : World) (hv : SessionOk x) (hb : Below w.heap.size w W) => c_apply x _ ed W HSM.out hv (GX.out W hb))
  have HBa := hide ((HB0.out.alloc (by simp) (.cells #[.int .i64 ed.fKind, .int .i64 ed.fTrack, .int .i64 ed.fClip, .int .i64 ed.fValue, .int .i64 ed.fNew.fSource, .int .i64 ed.fNew.fFrom, .int .i64 ed.fNew.fLength, .int .i64 ed.fNew.fAt, .int .i64 ed.fNew.fGain] 41)).alloc (by simp; omega) (.cells #[.int .i64 0, .slice none 0 0, .slice none 0 0, .slice none 0 0, .slice none 0 0, .slice none 0 0] 32))
  have HP := hide ((HK0.out.alloc (.cells #[.int .i64 ed.fKind, .int .i64 ed.fTrack, .int .i64 ed.fClip, .int .i64 ed.fValue, .int .i64 ed.fNew.fSource, .int .i64 ed.fNew.fFrom, .int .i64 ed.fNew.fLength, .int .i64 ed.fNew.fAt, .int .i64 ed.fNew.fGain] 41)).alloc (.cells #[.int .i64 0, .slice none 0 0, .slice none 0 0, .slice none 0 0, .slice none 0 0, .slice none 0 0] 32)); have HE := hide ((Bk.born1' w (.cells #[.int .i64 x.fLength, (.slice va1 x.fSources.length vc1), (.slice va2 x.fTracks.length vc2), (.slice va3 x.fFeeds.length vc3), (.slice va4 x.fEffects.length vc4), (.slice va5 x.fMixer.fStrips.length vc5)] 32) 41 #[.int .i64 ed.fKind, .int .i64 ed.fTrack, .int .i64 ed.fClip, .int .i64 ed.fValue, .int .i64 ed.fNew.fSource, .int .i64 ed.fNew.fFrom, .int .i64 ed.fNew.fLength, .int .i64 ed.fNew.fAt, .int .i64 ed.fNew.fGain]).alloc (.cells #[.int .i64 0, .slice none 0 0, .slice none 0 0, .slice none 0 0, .slice none 0 0, .slice none 0 0] 32)); have HR : Sec (Bk _ (w.heap.size + 1 + 1) 32 #[.int .i64 0, .slice none 0 0, .slice none 0 0, .slice none 0 0, .slice none 0 0, .slice none 0 0]) := hide (Bk.born2 w (.cells #[.int .i64 x.fLength, (.slice va1 x.fSources.length vc1), (.slice va2 x.fTracks.length vc2), (.slice va3 x.fFeeds.length vc3), (.slice va4 x.fEffects.length vc4), (.slice va5 x.fMixer.fStrips.length vc5)] 32) (.cells #[.int .i64 ed.fKind, .int .i64 ed.fTrack, .int .i64 ed.fClip, .int .i64 ed.fValue, .int .i64 ed.fNew.fSource, .int .i64 ed.fNew.fFrom, .int .i64 ed.fNew.fLength, .int .i64 ed.fNew.fAt, .int .i64 ed.fNew.fGain] 41) 32 #[.int .i64 0, .slice none 0 0, .slice none 0 0, .slice none 0 0, .slice none 0 0, .slice none 0 0])
  clear HB0 HK0
  obtain ⟨W, hW⟩ : ∃ W', W' = (((w.alloc (.cells #[.int .i64 x.fLength, (.slice va1 x.fSources.length vc1), (.slice va2 x.fTracks.length vc2), (.slice va3 x.fFeeds.length vc3), (.slice va4 x.fEffects.length vc4), (.slice va5 x.fMixer.fStrips.length vc5)] 32)).alloc (.cells #[.int .i64 ed.fKind, .int .i64 ed.fTrack, .int .i64 ed.fClip, .int .i64 ed.fValue, .int .i64 ed.fNew.fSource, .int .i64 ed.fNew.fFrom, .int .i64 ed.fNew.fLength, .int .i64 ed.fNew.fAt, .int .i64 ed.fNew.fGain] 41)).alloc (.cells #[.int .i64 0, .slice none 0 0, .slice none 0 0, .slice none 0 0, .slice none 0 0, .slice none 0 0] 32)) := ⟨_, rfl⟩
  rw [← hW] at HBa HP HE HR
  have HW := hide hW; clear hW
  go_enter Tryz.func43, Tryz.ntmps43
  have HB := HBa; clear HBa
  go_wp2_with fail
  rw [← HW.out]
  refine (IS.out _ HB.out).mono ?_; rintro e wE ⟨rfl, hb⟩
  have HB1 := hide (bthen HB.out HB.out.size hb); have HP1 := hide (HP.out.below hb HP.out.lt); have HE1 := hide (HE.out.below hb HE.out.lt); have HR1 := hide (HR.out.below hb HR.out.lt); clear hb HB HP HE HR
  have ke := HE1.out.cell; have kp := HP1.out.cell; have kr := HR1.out.cell; have fr := HR1.out.free; have lr := HR1.out.lt
  by_cases hS : SessionOk x
  rotate_left
  · rw [tf_no hS]; have HA := hide (applyF_session (e := ed) hS); clear hS
    go_wp2
    refine bodyPost_ret (v := .tuple #[.agg #[.int .i64 0, .slice none 0 0, .slice none 0 0, .slice none 0 0, .slice none 0 0, .slice none 0 0], .int .i64 1]) (by simp [results, Tryz.results43, go_sem, kr, fr]) rfl ?_
    rw [HA.out]; exact ⟨_, _, _, _, _, [], rfl, none_ows _, List.nodup_nil, by simp, ((((((HB1.out.setCell (by first | (simp; done) | (simp; omega) | omega) _).setCell (by first | (simp; done) | (simp; omega) | omega) _).setCell (by first | (simp; done) | (simp; omega) | omega) _).setCell (by first | (simp; done) | (simp; omega) | omega) _).setCell (by first | (simp; done) | (simp; omega) | omega) _).setCell (by first | (simp; done) | (simp; omega) | omega) _)⟩
  rw [tf_yes hS]; have HS := hide hS; clear hS
  go_wp2_with fail
  refine (IA.out _ HS.out HB1.out).mono ?_; rintro e wA ⟨v1, v2, v3, v4, v5, F, rfl, hN⟩
  have hb := hN.below
  have hlo := hN.lo
  obtain ⟨⟨A1, L1, C1, rfl⟩, ⟨A2, L2, C2, rfl⟩, ⟨A3, L3, C3, rfl⟩, ⟨A4, L4, C4, rfl⟩, ⟨A5, L5, C5, rfl⟩⟩ := GSession.sl5 (T.ows_rds _ _ _ hN.ows)
  have HN := hide hN; clear hN
  have HB2 := hide (bthen HB1.out HB1.out.size hb); have HR2 := hide (HR1.out.below hb HR1.out.lt); clear ke kp kr fr
  have kr := HR2.out.cell; have fr := HR2.out.free
  have HWE := hide HB1.out.size; clear hb
  go_wp2
  refine bodyPost_ret (v := .tuple #[.agg #[.int .i64 (applyF x ed).1.fLength, .slice A1 L1 C1, .slice A2 L2 C2, .slice A3 L3 C3, .slice A4 L4 C4, .slice A5 L5 C5], .int .i64 (applyF x ed).2]) (by simp [results, Tryz.results43, go_sem, kr, fr]) rfl ?_
  have hz : w.heap.size + 1 + 1 ∉ F := fun hm => by have := hlo _ hm; omega
  exact ⟨_, _, _, _, _, F, rfl, (T.ows_far (T.ows_far (T.ows_far (T.ows_far (T.ows_far (T.ows_far HN.out.ows hz _ _) hz _ _) hz _ _) hz _ _) hz _ _) hz _ _), HN.out.nodup, fun b hb => by have h1 := hlo b hb; have h2 := HWE.out; omega, ((((((HB2.out.setCell (by first | (simp; done) | (simp; omega) | omega) _).setCell (by first | (simp; done) | (simp; omega) | omega) _).setCell (by first | (simp; done) | (simp; omega) | omega) _).setCell (by first | (simp; done) | (simp; omega) | omega) _).setCell (by first | (simp; done) | (simp; omega) | omega) _).setCell (by first | (simp; done) | (simp; omega) | omega) _)⟩
end Go.Proofs.YtajoaflfjilhmaaGreat
