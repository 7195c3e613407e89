/- Contract: the reference's ApplyEdit. Contract: the program's ApplyEdits. Arguments: a slice of structs that came in reads as a list. No program is named here. Arguments that are structs of slices of structs read as nested data. No program is named here. -/
import Derived.Test.YtgmgjhdckepmmaaGreatQBbExactApplyEdit
import Derived.Test.YtgmgjhdckepmmaaGreatQBcExactApplyEdit
import Derived.Test.YtgmgjhdckepmmaaGreatQBeExactApplyEdit
import Derived.Test.YtgmgjhdckepmmaaGreatQBfExactApplyEdit
import Derived.Test.YtgmgjhdckepmmaaGreatQApExactApplyEdit
import Derived.Deep.RegionHeld3
import Derived.Test.YtgmgjhdckepmmaaGreatQAaExactApplyEdit
import Derived.Deep.Slices
import Derived.ChangeSame
import Derived.ChangeArms
import Derived.Test.YtgmgjhdckepmmaaGreatQAbExactApplyEdit
set_option linter.unusedVariables false
set_option linter.unusedSimpArgs false
section
namespace Go.Proofs.YtgmgjhdckepmmaaGreat
open Go.RowKit
set_option maxHeartbeats 8000000 in
set_option maxRecDepth 100000 in
theorem c_l31Apply (x : GSession) (b o : Nat) (ed : GEdit) (b' o' : Nat) (w : World) (hs : x.small) (he : T.at w ed.fs b' o') (h : T.at w x.fs b o) : Calls Tryz.prog 45 #[.pointer (some ⟨b, o, none⟩), .pointer (some ⟨b', o', none⟩)] w fun e w' => ∃ v1 v2 v3 v4 v5 F, e = .returned (.tuple #[.agg #[.int .i64 (applyF x ed).1.fLength, v1, v2, v3, v4, v5], .int .i64 (applyF x ed).2]) ∧ Nw w w' (applyF x ed).1.fs F [.int .i64 (applyF x ed).1.fLength, v1, v2, v3, v4, v5] := by
  have HAT := hide h
  obtain ⟨hlt0, cs, hr, hc⟩ := h
  obtain ⟨v1, v2, v3, v4, v5, rfl, h1, h2, h3, h4, h5⟩ := GSession.rd_open hr
  clear hr
  have R1 := hide h1; obtain ⟨va1, vc1, rfl, vl1, vm1, vx1⟩ := T.rd_openG h1
  have HX1 := hide vx1; clear vx1 h1
  have R2 := hide h2; obtain ⟨va2, vc2, rfl, vl2, vm2, vx2⟩ := T.rd_openG h2
  have HX2 := hide vx2; clear vx2 h2
  have h3i := T.rd_ints.1 h3; obtain ⟨va3, vc3, rfl, vl3, vm3, vx3⟩ := h3i.open_
  have R3 := hide h3i; have HX3 := hide vx3; clear vx3 h3 h3i
  have R4 := hide h4; obtain ⟨va4, vc4, rfl, vl4, vm4, vx4⟩ := T.rd_openG h4
  have HX4 := hide vx4; clear vx4 h4
  have R5 := hide h5; obtain ⟨va5, vc5, rfl, vl5, vm5, vx5⟩ := T.rd_openG h5
  have HX5 := hide vx5; clear vx5 h5
  have HL := hide hlt0; have HCC := hide hc; have HB0 := hide (Below.refl w.heap.size w); clear hlt0 hc
  have HSM := hide hs; have HEAT := hide he; clear hs
  obtain ⟨ek, et, ec, ev, ns, nf, nl, na, ng⟩ := ed
  obtain ⟨hlt', cs', hr', hc'⟩ := he
  obtain rfl := GEdit.rd_open hr'
  dsimp only at hc'
  have c0 : w.cell? ⟨b', o', none⟩ = some (.int .i64 ek) := hc' 0 _ rfl
  have c1 : w.cell? ⟨b', o' + 1, none⟩ = some (.int .i64 et) := hc' 1 _ rfl
  clear hc' hr'
  have p2 : w.cell? ⟨b, o + 2, none⟩ = some (.slice va2 x.fTracks.length vc2) := HCC.out 2 _ rfl
  have QA0 := hide (@applyF_session x ⟨ek, et, ec, ev, ⟨ns, nf, nl, na, ng⟩⟩); have QA1 := hide (@applyF_fields x ⟨ek, et, ec, ev, ⟨ns, nf, nl, na, ng⟩⟩); have QA2 := hide (@applyF_range x ⟨ek, et, ec, ev, ⟨ns, nf, nl, na, ng⟩⟩); have QA3 := hide (@applyF_full x ⟨ek, et, ec, ev, ⟨ns, nf, nl, na, ng⟩⟩); have QA4 := hide (@applyF_bad x ⟨ek, et, ec, ev, ⟨ns, nf, nl, na, ng⟩⟩); have QA5 := hide (@applyF_of x ⟨ek, et, ec, ev, ⟨ns, nf, nl, na, ng⟩⟩)
  have HBa := hide (show Below w.heap.size w (w.alloc (.cells #[.int .i64 0, .slice none 0 0, .slice none 0 0, .slice none 0 0, .slice none 0 0, .slice none 0 0] 32)) from (Below.refl _ _).alloc (Nat.le_refl _) _); have HRa := hide (Bk.born w 32 #[.int .i64 0, .slice none 0 0, .slice none 0 0, .slice none 0 0, .slice none 0 0, .slice none 0 0])
  obtain ⟨W, hW⟩ : ∃ W', W' = (w.alloc (.cells #[.int .i64 0, .slice none 0 0, .slice none 0 0, .slice none 0 0, .slice none 0 0, .slice none 0 0] 32)) := ⟨_, rfl⟩
  rw [← hW] at HBa HRa
  have HW := hide hW; clear hW
  generalize hAP : applyF x ⟨ek, et, ec, ev, ⟨ns, nf, nl, na, ng⟩⟩ = AP at *; have HAP := hide hAP; clear hAP
  go_enter Tryz.func45, Tryz.ntmps45
  go_wp2_with fail
  rw [← HW.out]
  refine (c_l27Ok x b o _ HSM.out (T.at_below HAT.out HBa.out)).mono ?_; rintro e w1 ⟨rfl, hb⟩
  have HB1 := hide (bthen HBa.out HBa.out.size hb); have HR1 := hide (HRa.out.below hb HRa.out.lt); clear hb
  have kr := HR1.out.cell; have fr := HR1.out.free; have lr := HR1.out.lt
  by_cases hS : SessionOk x
  rotate_left
  ·
    rw [tf_no hS]; have HA := hide (QA0.out hS); clear hS
    go_wp2
    refine bodyPost_ret (v := .tuple #[.agg #[.int .i64 0, .slice none 0 0, .slice none 0 0, .slice none 0 0, .slice none 0 0, .slice none 0 0], .int .i64 1]) (by simp [results, Tryz.results45, go_sem, kr, fr]) rfl ?_
    exact ⟨_, _, _, _, _, [], by rw [HA.out]; rfl, by rw [HA.out]; exact ⟨none_ows _, List.nodup_nil, by simp, ((((((HB1.out.setCell (by first | (simp; done) | (simp; omega) | omega) _).setCell (by first | (simp; done) | (simp; omega) | omega) _).setCell (by first | (simp; done) | (simp; omega) | omega) _).setCell (by first | (simp; done) | (simp; omega) | omega) _).setCell (by first | (simp; done) | (simp; omega) | omega) _).setCell (by first | (simp; done) | (simp; omega) | omega) _)⟩⟩
  rw [tf_yes hS]; have HV := hide hS; clear hS
  go_wp2_with fail
  refine (c_l31Fields ⟨ek, et, ec, ev, ⟨ns, nf, nl, na, ng⟩⟩ b' o' _ (T.at_below HEAT.out HB1.out)).mono ?_; rintro e w2 ⟨rfl, hb⟩
  have HB2 := hide (bthen HB1.out HB1.out.size hb); have HR2 := hide (HR1.out.below hb HR1.out.lt); clear hb kr fr lr
  have kr := HR2.out.cell; have fr := HR2.out.free; have lr := HR2.out.lt
  by_cases hF : FieldsOk ⟨ek, et, ec, ev, ⟨ns, nf, nl, na, ng⟩⟩
  rotate_left
  ·
    rw [tf_no hF]; have HA := hide (QA1.out HV.out hF); clear hF
    go_wp2
    refine bodyPost_ret (v := .tuple #[.agg #[.int .i64 0, .slice none 0 0, .slice none 0 0, .slice none 0 0, .slice none 0 0, .slice none 0 0], .int .i64 1]) (by simp [results, Tryz.results45, go_sem, kr, fr]) rfl ?_
    exact ⟨_, _, _, _, _, [], by rw [HA.out]; rfl, by rw [HA.out]; exact ⟨none_ows _, List.nodup_nil, by simp, ((((((HB2.out.setCell (by first | (simp; done) | (simp; omega) | omega) _).setCell (by first | (simp; done) | (simp; omega) | omega) _).setCell (by first | (simp; done) | (simp; omega) | omega) _).setCell (by first | (simp; done) | (simp; omega) | omega) _).setCell (by first | (simp; done) | (simp; omega) | omega) _).setCell (by first | (simp; done) | (simp; omega) | omega) _)⟩⟩
  rw [tf_yes hF]; have HF := hide hF; clear hF
  go_wp2_with fail
  refine (c_l31Range x b o ⟨ek, et, ec, ev, ⟨ns, nf, nl, na, ng⟩⟩ b' o' _ HSM.out (T.at_below HEAT.out HB2.out) (T.at_below HAT.out HB2.out)).mono ?_; rintro e w3 ⟨rfl, hb⟩
  have HB3 := hide (bthen HB2.out HB2.out.size hb); have HR3 := hide (HR2.out.below hb HR2.out.lt); clear hb kr fr lr
  have kr := HR3.out.cell; have fr := HR3.out.free; have lr := HR3.out.lt
  by_cases hRa : RangeOk x ⟨ek, et, ec, ev, ⟨ns, nf, nl, na, ng⟩⟩
  rotate_left
  ·
    rw [tf_no hRa]; have HA := hide (QA2.out HV.out HF.out hRa); clear hRa
    go_wp2
    refine bodyPost_ret (v := .tuple #[.agg #[.int .i64 0, .slice none 0 0, .slice none 0 0, .slice none 0 0, .slice none 0 0, .slice none 0 0], .int .i64 2]) (by simp [results, Tryz.results45, go_sem, kr, fr]) rfl ?_
    exact ⟨_, _, _, _, _, [], by rw [HA.out]; rfl, by rw [HA.out]; exact ⟨none_ows _, List.nodup_nil, by simp, ((((((HB3.out.setCell (by first | (simp; done) | (simp; omega) | omega) _).setCell (by first | (simp; done) | (simp; omega) | omega) _).setCell (by first | (simp; done) | (simp; omega) | omega) _).setCell (by first | (simp; done) | (simp; omega) | omega) _).setCell (by first | (simp; done) | (simp; omega) | omega) _).setCell (by first | (simp; done) | (simp; omega) | omega) _)⟩⟩
  rw [tf_yes hRa]; have HRG := hide hRa; clear hRa
  have HC0 := hide c0; have HC1 := hide c1; have HP2 := hide p2; clear c0 c1 p2
  by_cases k1 : ek = 1
  ·
    have q1 : (ek == 1) = true := beqI_t k1
    obtain ⟨k, t, hk, ht⟩ := range_track HRG.out (show ek ≠ 5 by omega)
    obtain rfl : et = (k : Int) := hk
    have hlt : k < x.fTracks.length := (List.getElem?_eq_some_iff.1 ht).1
    have HT := hide (clipsAt_of ht); have hn12 := (HV.out.tracks k t ht).1.few
    obtain ⟨b1, off, cs1, hA, hb1, hcs, hcell⟩ := HX2.out k t ht
    subst hA; clear ht
    have HBr := hide (Below.refl w.heap.size w)
    obtain ⟨u0, rfl, hRY0⟩ := GTrack.rd_open (show T.rds _ _ _ by simpa only [GTrack.t, T.rd] using hcs)
    have d0 := (HBr.out.cell hb1).trans (hcell 0 (u0) rfl)
    rw [show off + (k * 1 + 0) = off + k by omega] at d0
    have RY0 := hide (T.rd_below hRY0 HBr.out); clear hRY0
    clear hcs hcell
    obtain ⟨ua0, uc0, rfl, ul0, um0, -⟩ := T.rd_openG RY0.out
    have hi0 : (0 : Int) ≤ (k : Int) := by omega
    have hi1 : (k : Int) < (x.fTracks.length : Int) := by omega
    have a0 := (HB3.out.cell hlt').trans HC0.out; have a1 := (HB3.out.cell hlt').trans HC1.out; have a2 := (HB3.out.cell HL.out).trans HP2.out; have a3 := (HB3.out.cell hb1).trans d0
    by_cases c12 : 12 ≤ t.fClips.length
    ·
      have b12 : decide ((12 : Int) ≤ (t.fClips.length : Int)) = true := decide_eq_true (by omega)
      have HA := hide (QA3.out HV.out HF.out HRG.out k1 (by (try dsimp only); rw [HT.out]; exact c12)); clear k1
      go_wp2
      have g0 := bel_cell a0
      have g1 := bel_cell a1
      have g2 := bel_cell a2
      have g3 := bel_cell a3
      refine wp_region_bel (by kernel_rfl) (by kernel_rfl) ?_
      repeat (first | go_big_quiet_skip | (go_big_quiet_want; go_big_quiet_op; first | go_big_quiet_on | (apply Exists.intro; refine ⟨fun _ => ?_, ?_⟩; (· (fail)); go_big_quiet_on)))
      refine wpQuiet_nil ?_
      rintro w9 ⟨uu, rfl⟩
      have hb := bel_below w3 uu
      generalize bel w3 uu = w9 at *
      clear g0 g1 g2 g3
      have HB4 := hide (bthen HB3.out HB3.out.size hb); have HR4 := hide (HR3.out.below hb HR3.out.lt); clear hb kr fr lr
      have kr := HR4.out.cell; have fr := HR4.out.free; have lr := HR4.out.lt
      go_wp2
      refine bodyPost_ret (v := .tuple #[.agg #[.int .i64 0, .slice none 0 0, .slice none 0 0, .slice none 0 0, .slice none 0 0, .slice none 0 0], .int .i64 5]) (by simp [results, Tryz.results45, go_sem, kr, fr]) rfl ?_
      exact ⟨_, _, _, _, _, [], by rw [HA.out]; rfl, by rw [HA.out]; exact ⟨none_ows _, List.nodup_nil, by simp, ((((((HB4.out.setCell (by first | (simp; done) | (simp; omega) | omega) _).setCell (by first | (simp; done) | (simp; omega) | omega) _).setCell (by first | (simp; done) | (simp; omega) | omega) _).setCell (by first | (simp; done) | (simp; omega) | omega) _).setCell (by first | (simp; done) | (simp; omega) | omega) _).setCell (by first | (simp; done) | (simp; omega) | omega) _)⟩⟩
    have b12 : decide ((12 : Int) ≤ (t.fClips.length : Int)) = false := decide_eq_false (by omega)
    have HNF : Sec (¬ (ek = 1 ∧ 12 ≤ (clipsAt x (k : Int)).length)) := hide (fun h => c12 (by have h2 := h.2; rw [HT.out] at h2; exact h2)); clear k1
    go_wp2
    have g0 := bel_cell a0
    have g1 := bel_cell a1
    have g2 := bel_cell a2
    have g3 := bel_cell a3
    refine wp_region_bel (by kernel_rfl) (by kernel_rfl) ?_
    repeat (first | go_big_quiet_skip | (go_big_quiet_want; go_big_quiet_op; first | go_big_quiet_on | (apply Exists.intro; refine ⟨fun _ => ?_, ?_⟩; (· (fail)); go_big_quiet_on)))
    refine wpQuiet_nil ?_
    rintro w9 ⟨uu, rfl⟩
    have hb := bel_below w3 uu
    generalize bel w3 uu = w9 at *
    clear g0 g1 g2 g3
    have HB4 := hide (bthen HB3.out HB3.out.size hb); have HR4 := hide (HR3.out.below hb HR3.out.lt); clear hb kr fr lr
    have kr := HR4.out.cell; have fr := HR4.out.free; have lr := HR4.out.lt
    clear a0 a1 a2 a3 d0 q1 b12 c12 hn12 hi0 hi1 RY0 um0 ul0
    go_wp2_with fail
    refine (c_l27Own x b o _ HSM.out (T.at_below HAT.out HB4.out)).mono ?_; rintro e wC ⟨v1, v2, v3, v4, v5, F, rfl, hN⟩
    have hb := hN.below
    obtain ⟨⟨A1, L1, C1, rfl⟩, ⟨A2, L2, C2, rfl⟩, ⟨A3, L3, C3, rfl⟩, ⟨A4, L4, C4, rfl⟩, ⟨A5, L5, C5, rfl⟩⟩ := GSession.sl5 (T.ows_rds _ _ _ hN.ows)
    have HN := hide hN; clear hN
    have h9C := hb.size
    have HB5 := hide (bthen HB4.out HB4.out.size hb); have HR5 := hide (HR4.out.below hb HR4.out.lt); clear hb kr fr lr
    have kr := HR5.out.cell; have fr := HR5.out.free; have lr := HR5.out.lt
    have hFl := T.ows_lt _ _ _ HN.out.ows
    have hlb' : b' < w9.heap.size := Nat.lt_of_lt_of_le hlt' HB4.out.size
    have hlr := HR4.out.lt
    have HX := hide (show Below wC.heap.size wC (wC.alloc (.cells #[.int .i64 x.fLength, .slice A1 L1 C1, .slice A2 L2 C2, .slice A3 L3 C3, .slice A4 L4 C4, .slice A5 L5 C5] 32)) from (Below.refl _ _).alloc (Nat.le_refl _) _)
    have HBX := hide (HB5.out.alloc HB5.out.size (.cells #[.int .i64 x.fLength, .slice A1 L1 C1, .slice A2 L2 C2, .slice A3 L3 C3, .slice A4 L4 C4, .slice A5 L5 C5] 32)); have HRX := hide (HR5.out.alloc (.cells #[.int .i64 x.fLength, .slice A1 L1 C1, .slice A2 L2 C2, .slice A3 L3 C3, .slice A4 L4 C4, .slice A5 L5 C5] 32)); have HOX := hide (Bk.born wC 32 #[.int .i64 x.fLength, .slice A1 L1 C1, .slice A2 L2 C2, .slice A3 L3 C3, .slice A4 L4 C4, .slice A5 L5 C5])
    have hnF : wC.heap.size ∉ F := fun hm => by have := hFl _ hm; omega
    have hbF : b' ∉ F := fun hm => by have := HN.out.lo _ hm; omega
    have hrF : w.heap.size ∉ F := fun hm => by have := HN.out.lo _ hm; omega
    have HNF1 := hide hnF; have HNF2 := hide hbF; have HNF3 := hide hrF; clear hnF hbF hrF hFl hlb' hlr kr fr lr
    go_wp2_with fail
    refine (c_l31Do x wC.heap.size ⟨ek, (k : Int), ec, ev, ⟨ns, nf, nl, na, ng⟩⟩ b' o' F _ _ _ _ _ _ HSM.out HV.out HF.out HRG.out HOX.out (T.ows_all HN.out.ows HX.out) HN.out.nodup (T.at_below HEAT.out HBX.out) HNF1.out HNF2.out).mono ?_; rintro e wD ⟨rfl, F', hO, hnd, hmm, htr⟩
    have HO := hide hO; have HND := hide hnd; have HMM := hide hmm
    have HB6 := hide (htr.below HBX.out (fun c hc => by have h1 := HN.out.lo c hc; have h2 := HB4.out.size; omega) HBX.out.size); have HR6 := hide (HRX.out.trn htr HNF3.out); have HO6 := hide (HOX.out.trn htr HNF1.out)
    have hsz := htr.size; clear hO hnd hmm htr
    have HAD := hide (show T.at wD (doE x ⟨ek, (k : Int), ec, ev, ⟨ns, nf, nl, na, ng⟩⟩).fs wC.heap.size 0 from ⟨HO6.out.lt, _, T.ows_rds _ _ _ HO.out, fun i u hi => by rw [Nat.zero_add]; exact (HO6.out.cell i).trans (by simpa using hi)⟩)
    go_wp2_with fail
    refine (c_l27Ok (doE x ⟨ek, (k : Int), ec, ev, ⟨ns, nf, nl, na, ng⟩⟩) wC.heap.size 0 _ (doE_small HSM.out HV.out) HAD.out).mono ?_; rintro e wE ⟨rfl, hb⟩
    have HO7 := hide (HO6.out.below hb HO6.out.lt); have HOW := hide (T.ows_all HO.out hb); have hDE := hb.size
    have HB7 := hide (bthen HB6.out HB6.out.size hb); have HR7 := hide (HR6.out.below hb HR6.out.lt); clear hb
    have kr := HR7.out.cell; have fr := HR7.out.free; have lr := HR7.out.lt; have ko := HO7.out.cell; have fo := HO7.out.free; have lo := HO7.out.lt
    have nn1 : ¬ wC.heap.size = w.heap.size := by have := HR5.out.lt; omega
    have nn2 : ¬ w.heap.size = wC.heap.size := fun e => nn1 e.symm
    by_cases hD : SessionOk (doE x ⟨ek, (k : Int), ec, ev, ⟨ns, nf, nl, na, ng⟩⟩)
    rotate_left
    ·
      rw [tf_no hD]; have HA := hide (QA4.out HV.out HF.out HRG.out HNF.out hD); clear hD
      go_wp2
      refine bodyPost_ret (v := .tuple #[.agg #[.int .i64 0, .slice none 0 0, .slice none 0 0, .slice none 0 0, .slice none 0 0, .slice none 0 0], .int .i64 6]) (by simp [results, Tryz.results45, go_sem, kr, fr]) rfl ?_
      exact ⟨_, _, _, _, _, [], by rw [HA.out]; rfl, by rw [HA.out]; exact ⟨none_ows _, List.nodup_nil, by simp, ((((((HB7.out.setCell (by first | (simp; done) | (simp; omega) | omega) _).setCell (by first | (simp; done) | (simp; omega) | omega) _).setCell (by first | (simp; done) | (simp; omega) | omega) _).setCell (by first | (simp; done) | (simp; omega) | omega) _).setCell (by first | (simp; done) | (simp; omega) | omega) _).setCell (by first | (simp; done) | (simp; omega) | omega) _)⟩⟩
    rw [tf_yes hD]; have HA := hide (QA5.out HV.out HF.out HRG.out HNF.out hD); clear hD
    go_wp2
    refine bodyPost_ret (v := .tuple #[.agg #[.int .i64 x.fLength, .slice A1 L1 C1, .slice A2 L2 C2, .slice A3 L3 C3, .slice A4 L4 C4, .slice A5 L5 C5], .int .i64 0]) (by simp [results, Tryz.results45, go_sem, ko, fo, kr, fr, nn1, nn2, lr]) rfl ?_
    have hzR : w.heap.size ∉ F' := fun hm => by rcases HMM.out _ hm with h | h; (· exact HNF3.out h); (· have h2 := HRX.out.lt; omega)
    have hlen : (doE x ⟨ek, (k : Int), ec, ev, ⟨ns, nf, nl, na, ng⟩⟩).fLength = x.fLength := by unfold doE; split; rfl; split; rfl; rfl
    exact ⟨_, _, _, _, _, F', by rw [HA.out]; dsimp only; rw [hlen], by rw [HA.out]; dsimp only; rw [hlen]; exact ⟨(T.ows_far (T.ows_far (T.ows_far (T.ows_far (T.ows_far (T.ows_far HOW.out hzR _ _) hzR _ _) hzR _ _) hzR _ _) hzR _ _) hzR _ _), HND.out, fun c hc => by rcases HMM.out c hc with h | h; (· have h1 := HN.out.lo c h; have h2 := HB4.out.size; omega); (· have h2 := HBX.out.size; omega), ((((((HB7.out.setCell (by first | (simp; done) | (simp; omega) | omega) _).setCell (by first | (simp; done) | (simp; omega) | omega) _).setCell (by first | (simp; done) | (simp; omega) | omega) _).setCell (by first | (simp; done) | (simp; omega) | omega) _).setCell (by first | (simp; done) | (simp; omega) | omega) _).setCell (by first | (simp; done) | (simp; omega) | omega) _)⟩⟩
  have q1 : (ek == 1) = false := beqI_f k1
  have HNF : Sec (¬ (ek = 1 ∧ 12 ≤ (clipsAt x et).length)) := hide (fun h => k1 h.1); clear k1
  have a0 := (HB3.out.cell hlt').trans HC0.out
  go_wp2
  have g0 := bel_cell a0
  refine wp_region_bel (by kernel_rfl) (by kernel_rfl) ?_
  repeat (first | go_big_quiet_skip | (go_big_quiet_want; go_big_quiet_op; first | go_big_quiet_on | (apply Exists.intro; refine ⟨fun _ => ?_, ?_⟩; (· (fail)); go_big_quiet_on)))
  refine wpQuiet_nil ?_
  rintro w9 ⟨uu, rfl⟩
  have hb := bel_below w3 uu
  generalize bel w3 uu = w9 at *
  clear g0
  have HB4 := hide (bthen HB3.out HB3.out.size hb); have HR4 := hide (HR3.out.below hb HR3.out.lt); clear hb kr fr lr
  have kr := HR4.out.cell; have fr := HR4.out.free; have lr := HR4.out.lt
  clear a0 q1
  go_wp2_with fail
  refine (c_l27Own x b o _ HSM.out (T.at_below HAT.out HB4.out)).mono ?_; rintro e wC ⟨v1, v2, v3, v4, v5, F, rfl, hN⟩
  have hb := hN.below
  obtain ⟨⟨A1, L1, C1, rfl⟩, ⟨A2, L2, C2, rfl⟩, ⟨A3, L3, C3, rfl⟩, ⟨A4, L4, C4, rfl⟩, ⟨A5, L5, C5, rfl⟩⟩ := GSession.sl5 (T.ows_rds _ _ _ hN.ows)
  have HN := hide hN; clear hN
  have h9C := hb.size
  have HB5 := hide (bthen HB4.out HB4.out.size hb); have HR5 := hide (HR4.out.below hb HR4.out.lt); clear hb kr fr lr
  have kr := HR5.out.cell; have fr := HR5.out.free; have lr := HR5.out.lt
  have hFl := T.ows_lt _ _ _ HN.out.ows
  have hlb' : b' < w9.heap.size := Nat.lt_of_lt_of_le hlt' HB4.out.size
  have hlr := HR4.out.lt
  have HX := hide (show Below wC.heap.size wC (wC.alloc (.cells #[.int .i64 x.fLength, .slice A1 L1 C1, .slice A2 L2 C2, .slice A3 L3 C3, .slice A4 L4 C4, .slice A5 L5 C5] 32)) from (Below.refl _ _).alloc (Nat.le_refl _) _)
  have HBX := hide (HB5.out.alloc HB5.out.size (.cells #[.int .i64 x.fLength, .slice A1 L1 C1, .slice A2 L2 C2, .slice A3 L3 C3, .slice A4 L4 C4, .slice A5 L5 C5] 32)); have HRX := hide (HR5.out.alloc (.cells #[.int .i64 x.fLength, .slice A1 L1 C1, .slice A2 L2 C2, .slice A3 L3 C3, .slice A4 L4 C4, .slice A5 L5 C5] 32)); have HOX := hide (Bk.born wC 32 #[.int .i64 x.fLength, .slice A1 L1 C1, .slice A2 L2 C2, .slice A3 L3 C3, .slice A4 L4 C4, .slice A5 L5 C5])
  have hnF : wC.heap.size ∉ F := fun hm => by have := hFl _ hm; omega
  have hbF : b' ∉ F := fun hm => by have := HN.out.lo _ hm; omega
  have hrF : w.heap.size ∉ F := fun hm => by have := HN.out.lo _ hm; omega
  have HNF1 := hide hnF; have HNF2 := hide hbF; have HNF3 := hide hrF; clear hnF hbF hrF hFl hlb' hlr kr fr lr
  go_wp2_with fail
  refine (c_l31Do x wC.heap.size ⟨ek, et, ec, ev, ⟨ns, nf, nl, na, ng⟩⟩ b' o' F _ _ _ _ _ _ HSM.out HV.out HF.out HRG.out HOX.out (T.ows_all HN.out.ows HX.out) HN.out.nodup (T.at_below HEAT.out HBX.out) HNF1.out HNF2.out).mono ?_; rintro e wD ⟨rfl, F', hO, hnd, hmm, htr⟩
  have HO := hide hO; have HND := hide hnd; have HMM := hide hmm
  have HB6 := hide (htr.below HBX.out (fun c hc => by have h1 := HN.out.lo c hc; have h2 := HB4.out.size; omega) HBX.out.size); have HR6 := hide (HRX.out.trn htr HNF3.out); have HO6 := hide (HOX.out.trn htr HNF1.out)
  have hsz := htr.size; clear hO hnd hmm htr
  have HAD := hide (show T.at wD (doE x ⟨ek, et, ec, ev, ⟨ns, nf, nl, na, ng⟩⟩).fs wC.heap.size 0 from ⟨HO6.out.lt, _, T.ows_rds _ _ _ HO.out, fun i u hi => by rw [Nat.zero_add]; exact (HO6.out.cell i).trans (by simpa using hi)⟩)
  go_wp2_with fail
  refine (c_l27Ok (doE x ⟨ek, et, ec, ev, ⟨ns, nf, nl, na, ng⟩⟩) wC.heap.size 0 _ (doE_small HSM.out HV.out) HAD.out).mono ?_; rintro e wE ⟨rfl, hb⟩
  have HO7 := hide (HO6.out.below hb HO6.out.lt); have HOW := hide (T.ows_all HO.out hb); have hDE := hb.size
  have HB7 := hide (bthen HB6.out HB6.out.size hb); have HR7 := hide (HR6.out.below hb HR6.out.lt); clear hb
  have kr := HR7.out.cell; have fr := HR7.out.free; have lr := HR7.out.lt; have ko := HO7.out.cell; have fo := HO7.out.free; have lo := HO7.out.lt
  have nn1 : ¬ wC.heap.size = w.heap.size := by have := HR5.out.lt; omega
  have nn2 : ¬ w.heap.size = wC.heap.size := fun e => nn1 e.symm
  by_cases hD : SessionOk (doE x ⟨ek, et, ec, ev, ⟨ns, nf, nl, na, ng⟩⟩)
  rotate_left
  ·
    rw [tf_no hD]; have HA := hide (QA4.out HV.out HF.out HRG.out HNF.out hD); clear hD
    go_wp2
    refine bodyPost_ret (v := .tuple #[.agg #[.int .i64 0, .slice none 0 0, .slice none 0 0, .slice none 0 0, .slice none 0 0, .slice none 0 0], .int .i64 6]) (by simp [results, Tryz.results45, go_sem, kr, fr]) rfl ?_
    exact ⟨_, _, _, _, _, [], by rw [HA.out]; rfl, by rw [HA.out]; exact ⟨none_ows _, List.nodup_nil, by simp, ((((((HB7.out.setCell (by first | (simp; done) | (simp; omega) | omega) _).setCell (by first | (simp; done) | (simp; omega) | omega) _).setCell (by first | (simp; done) | (simp; omega) | omega) _).setCell (by first | (simp; done) | (simp; omega) | omega) _).setCell (by first | (simp; done) | (simp; omega) | omega) _).setCell (by first | (simp; done) | (simp; omega) | omega) _)⟩⟩
  rw [tf_yes hD]; have HA := hide (QA5.out HV.out HF.out HRG.out HNF.out hD); clear hD
  go_wp2
  refine bodyPost_ret (v := .tuple #[.agg #[.int .i64 x.fLength, .slice A1 L1 C1, .slice A2 L2 C2, .slice A3 L3 C3, .slice A4 L4 C4, .slice A5 L5 C5], .int .i64 0]) (by simp [results, Tryz.results45, go_sem, ko, fo, kr, fr, nn1, nn2, lr]) rfl ?_
  have hzR : w.heap.size ∉ F' := fun hm => by rcases HMM.out _ hm with h | h; (· exact HNF3.out h); (· have h2 := HRX.out.lt; omega)
  have hlen : (doE x ⟨ek, et, ec, ev, ⟨ns, nf, nl, na, ng⟩⟩).fLength = x.fLength := by unfold doE; split; rfl; split; rfl; rfl
  exact ⟨_, _, _, _, _, F', by rw [HA.out]; dsimp only; rw [hlen], by rw [HA.out]; dsimp only; rw [hlen]; exact ⟨(T.ows_far (T.ows_far (T.ows_far (T.ows_far (T.ows_far (T.ows_far HOW.out hzR _ _) hzR _ _) hzR _ _) hzR _ _) hzR _ _) hzR _ _), HND.out, fun c hc => by rcases HMM.out c hc with h | h; (· have h1 := HN.out.lo c h; have h2 := HB4.out.size; omega); (· have h2 := HBX.out.size; omega), ((((((HB7.out.setCell (by first | (simp; done) | (simp; omega) | omega) _).setCell (by first | (simp; done) | (simp; omega) | omega) _).setCell (by first | (simp; done) | (simp; omega) | omega) _).setCell (by first | (simp; done) | (simp; omega) | omega) _).setCell (by first | (simp; done) | (simp; omega) | omega) _).setCell (by first | (simp; done) | (simp; omega) | omega) _)⟩⟩
set_option maxHeartbeats 8000000 in
set_option maxRecDepth 100000 in
theorem c_sApplyEdit (x : GSession) (cs : List Value) (ed : GEdit) (w : World) (hs : x.small) (h : T.rds w x.fs cs) : Calls Tryz.prog 13 #[.agg cs.toArray, .agg #[.int .i64 ed.fKind, .int .i64 ed.fTrack, .int .i64 ed.fClip, .int .i64 ed.fValue, .int .i64 ed.fNew.fSource, .int .i64 ed.fNew.fFrom, .int .i64 ed.fNew.fLength, .int .i64 ed.fNew.fAt, .int .i64 ed.fNew.fGain]] w fun e w' => ∃ v1 v2 v3 v4 v5 F, e = .returned (.tuple #[.agg #[.int .i64 (applyF x ed).1.fLength, v1, v2, v3, v4, v5], .int .i64 (applyF x ed).2]) ∧ Nw w w' (applyF x ed).1.fs F [.int .i64 (applyF x ed).1.fLength, v1, v2, v3, v4, v5] := by
  obtain ⟨v1, v2, v3, v4, v5, rfl, h1, h2, h3, h4, h5⟩ := GSession.rd_open h
  clear h
  have R1 := hide h1; obtain ⟨va1, vc1, rfl, vl1, vm1, vx1⟩ := T.rd_openG h1
  have HX1 := hide vx1; clear vx1 h1
  have R2 := hide h2; obtain ⟨va2, vc2, rfl, vl2, vm2, vx2⟩ := T.rd_openG h2
  have HX2 := hide vx2; clear vx2 h2
  have h3i := T.rd_ints.1 h3; obtain ⟨va3, vc3, rfl, vl3, vm3, vx3⟩ := h3i.open_
  have R3 := hide h3i; have HX3 := hide vx3; clear vx3 h3 h3i
  have R4 := hide h4; obtain ⟨va4, vc4, rfl, vl4, vm4, vx4⟩ := T.rd_openG h4
  have HX4 := hide vx4; clear vx4 h4
  have R5 := hide h5; obtain ⟨va5, vc5, rfl, vl5, vm5, vx5⟩ := T.rd_openG h5
  have HX5 := hide vx5; clear vx5 h5
  have HB0 := hide (show Below w.heap.size w (w.alloc (.cells #[.int .i64 x.fLength, (.slice va1 x.fSources.length vc1), (.slice va2 x.fTracks.length vc2), (.slice va3 x.fFeeds.length vc3), (.slice va4 x.fEffects.length vc4), (.slice va5 x.fMixer.fStrips.length vc5)] 32)) from (Below.refl _ _).alloc (Nat.le_refl _) _)
  have HK0 := hide (Bk.born w 32 #[.int .i64 x.fLength, (.slice va1 x.fSources.length vc1), (.slice va2 x.fTracks.length vc2), (.slice va3 x.fFeeds.length vc3), (.slice va4 x.fEffects.length vc4), (.slice va5 x.fMixer.fStrips.length vc5)])
  have HSM := hide hs; clear hs
  have GX := hide (show ∀ w', Below w.heap.size w w' → T.rds w' x.fs [.int .i64 x.fLength, (.slice va1 x.fSources.length vc1), (.slice va2 x.fTracks.length vc2), (.slice va3 x.fFeeds.length vc3), (.slice va4 x.fEffects.length vc4), (.slice va5 x.fMixer.fStrips.length vc5)] from fun w' hb => GSession.rd_mk (T.rd_below R1.out hb) (T.rd_below R2.out hb) (T.rd_ints.2 (Rd.below R3.out hb)) (T.rd_below R4.out hb) (T.rd_below R5.out hb))
  have HBa := hide ((HB0.out.alloc (by simp) (.cells #[.int .i64 ed.fKind, .int .i64 ed.fTrack, .int .i64 ed.fClip, .int .i64 ed.fValue, .int .i64 ed.fNew.fSource, .int .i64 ed.fNew.fFrom, .int .i64 ed.fNew.fLength, .int .i64 ed.fNew.fAt, .int .i64 ed.fNew.fGain] 41)).alloc (by simp; omega) (.cells #[.int .i64 0, .slice none 0 0, .slice none 0 0, .slice none 0 0, .slice none 0 0, .slice none 0 0] 32))
  have HP := hide ((HK0.out.alloc (.cells #[.int .i64 ed.fKind, .int .i64 ed.fTrack, .int .i64 ed.fClip, .int .i64 ed.fValue, .int .i64 ed.fNew.fSource, .int .i64 ed.fNew.fFrom, .int .i64 ed.fNew.fLength, .int .i64 ed.fNew.fAt, .int .i64 ed.fNew.fGain] 41)).alloc (.cells #[.int .i64 0, .slice none 0 0, .slice none 0 0, .slice none 0 0, .slice none 0 0, .slice none 0 0] 32)); have HE := hide ((Bk.born1' w (.cells #[.int .i64 x.fLength, (.slice va1 x.fSources.length vc1), (.slice va2 x.fTracks.length vc2), (.slice va3 x.fFeeds.length vc3), (.slice va4 x.fEffects.length vc4), (.slice va5 x.fMixer.fStrips.length vc5)] 32) 41 #[.int .i64 ed.fKind, .int .i64 ed.fTrack, .int .i64 ed.fClip, .int .i64 ed.fValue, .int .i64 ed.fNew.fSource, .int .i64 ed.fNew.fFrom, .int .i64 ed.fNew.fLength, .int .i64 ed.fNew.fAt, .int .i64 ed.fNew.fGain]).alloc (.cells #[.int .i64 0, .slice none 0 0, .slice none 0 0, .slice none 0 0, .slice none 0 0, .slice none 0 0] 32)); have HR : Sec (Bk _ (w.heap.size + 1 + 1) 32 #[.int .i64 0, .slice none 0 0, .slice none 0 0, .slice none 0 0, .slice none 0 0, .slice none 0 0]) := hide (Bk.born2 w (.cells #[.int .i64 x.fLength, (.slice va1 x.fSources.length vc1), (.slice va2 x.fTracks.length vc2), (.slice va3 x.fFeeds.length vc3), (.slice va4 x.fEffects.length vc4), (.slice va5 x.fMixer.fStrips.length vc5)] 32) (.cells #[.int .i64 ed.fKind, .int .i64 ed.fTrack, .int .i64 ed.fClip, .int .i64 ed.fValue, .int .i64 ed.fNew.fSource, .int .i64 ed.fNew.fFrom, .int .i64 ed.fNew.fLength, .int .i64 ed.fNew.fAt, .int .i64 ed.fNew.fGain] 41) 32 #[.int .i64 0, .slice none 0 0, .slice none 0 0, .slice none 0 0, .slice none 0 0, .slice none 0 0])
  clear HB0 HK0
  obtain ⟨W, hW⟩ : ∃ W', W' = (((w.alloc (.cells #[.int .i64 x.fLength, (.slice va1 x.fSources.length vc1), (.slice va2 x.fTracks.length vc2), (.slice va3 x.fFeeds.length vc3), (.slice va4 x.fEffects.length vc4), (.slice va5 x.fMixer.fStrips.length vc5)] 32)).alloc (.cells #[.int .i64 ed.fKind, .int .i64 ed.fTrack, .int .i64 ed.fClip, .int .i64 ed.fValue, .int .i64 ed.fNew.fSource, .int .i64 ed.fNew.fFrom, .int .i64 ed.fNew.fLength, .int .i64 ed.fNew.fAt, .int .i64 ed.fNew.fGain] 41)).alloc (.cells #[.int .i64 0, .slice none 0 0, .slice none 0 0, .slice none 0 0, .slice none 0 0, .slice none 0 0] 32)) := ⟨_, rfl⟩
  rw [← hW] at HBa HP HE HR
  have HW := hide hW; clear hW
  have HAT := hide (show T.at W x.fs w.heap.size 0 from ⟨HP.out.lt, _, GX.out W HBa.out, fun i u hi => by rw [Nat.zero_add]; exact (HP.out.cell i).trans (by simpa using hi)⟩)
  have HEAT := hide (show T.at W ed.fs (w.heap.size + 1) 0 from ⟨HE.out.lt, _, GEdit.rd_mk, fun i u hi => by rw [Nat.zero_add]; exact (HE.out.cell i).trans (by simpa using hi)⟩)
  go_enter Tryz.func13, Tryz.ntmps13
  go_wp2_with fail
  rw [← HW.out]
  refine (c_l31Apply x w.heap.size 0 ed (w.heap.size + 1) 0 _ HSM.out HEAT.out HAT.out).mono ?_; rintro e wA ⟨v1, v2, v3, v4, v5, F, rfl, hN⟩
  have hb := hN.below
  have hlo := hN.lo
  obtain ⟨⟨A1, L1, C1, rfl⟩, ⟨A2, L2, C2, rfl⟩, ⟨A3, L3, C3, rfl⟩, ⟨A4, L4, C4, rfl⟩, ⟨A5, L5, C5, rfl⟩⟩ := GSession.sl5 (T.ows_rds _ _ _ hN.ows)
  have HN := hide hN; clear hN
  have HB2 := hide (bthen HBa.out HBa.out.size hb); have HR2 := hide (HR.out.below hb HR.out.lt)
  have kr := HR2.out.cell; have fr := HR2.out.free; have lr := HR2.out.lt
  have HWE := hide HBa.out.size; have hrl := HR.out.lt; clear hb
  go_wp2
  refine bodyPost_ret (v := .tuple #[.agg #[.int .i64 (applyF x ed).1.fLength, .slice A1 L1 C1, .slice A2 L2 C2, .slice A3 L3 C3, .slice A4 L4 C4, .slice A5 L5 C5], .int .i64 (applyF x ed).2]) (by simp [results, Tryz.results13, go_sem, kr, fr, lr]) rfl ?_
  have hz : w.heap.size + 1 + 1 ∉ F := fun hm => by have := hlo _ hm; omega
  exact ⟨_, _, _, _, _, F, rfl, (T.ows_far (T.ows_far (T.ows_far (T.ows_far (T.ows_far (T.ows_far HN.out.ows hz _ _) hz _ _) hz _ _) hz _ _) hz _ _) hz _ _), HN.out.nodup, fun b hb => by have h1 := hlo b hb; have h2 := HWE.out; omega, ((((((HB2.out.setCell (by first | (simp; done) | (simp; omega) | omega) _).setCell (by first | (simp; done) | (simp; omega) | omega) _).setCell (by first | (simp; done) | (simp; omega) | omega) _).setCell (by first | (simp; done) | (simp; omega) | omega) _).setCell (by first | (simp; done) | (simp; omega) | omega) _).setCell (by first | (simp; done) | (simp; omega) | omega) _)⟩
end Go.Proofs.YtgmgjhdckepmmaaGreat
end
section
namespace Go.Proofs.YtgmgjhdckepmmaaGreat
open Go.RowKit
theorem applyF_small {s : GSession} {e : GEdit} (h : s.small) (hc : (applyF s e).2 = 0) : (applyF s e).1.small ∧ SessionOk (applyF s e).1 := by
  obtain ⟨h1, _, _, _, h5, h6⟩ := applyF_ok hc
  rw [h6]
  exact ⟨doE_small h h1, h5⟩
end Go.Proofs.YtgmgjhdckepmmaaGreat
end
section
namespace Go.Proofs.YtgmgjhdckepmmaaGreat
open Go.RowKit Go.ChangeShapes Go.WideShapes Go.Deep
end Go.Proofs.YtgmgjhdckepmmaaGreat
end
section
namespace Go.Proofs.YtgmgjhdckepmmaaGreat
open Go.RowKit Go.ChangeShapes Go.WideShapes Go.Deep
theorem rds_range {w : World} (tr : Nat → T) (g : Nat → List Value) : ∀ (l : List Nat), (∀ i ∈ l, T.rd w (tr i) (g i)) → T.rds w (l.map tr) (l.flatMap g)
  | [], _ => T.c_re
  | i :: l, h => by
    simp only [List.map_cons, List.flatMap_cons, T.rds]
    exact ⟨_, _, rfl, h i (by simp), rds_range tr g l (fun j hj => h j (by simp [hj]))⟩
theorem rdT_open {α H : Type} {enc : TypeId × Value → H} {P : Program} {w : World} {base : Nat} {spare : Nat → Bool} {held : Bool} {t e : TypeId} {fuel : Nat} {cs : List Value} {x : DataW H × List MemPlace} (E : TypeId)
    (tr : α → T) {sz : Nat} (good : α → Prop) (hw : ∀ x, T.wide (tr x) = sz) (hs : 0 < sz) (dflt : α) (ht : P.underlying t = some (.slice e)) (ce : P.cellsOf e = sz)
    (hel : ∀ n cs' y, DataW.trod enc P w base spare held n e cs' = some y → ∃ z, T.rd w (tr z) cs' ∧ good z)
    (h : DataW.trod enc P w base spare held fuel t cs = some x) : ∃ (v : Value) (xs : List α), cs = [v] ∧ T.rd w (.sl E sz (xs.map tr)) [v] ∧ ∀ z ∈ xs, good z := by
  rcases open_slice ht h with ⟨rfl, _⟩ | ⟨a, len, cap, m, n, D, Pl, rfl, hb, hl, hm, hmm, _, hx⟩
  · refine ⟨_, [], rfl, ?_, by simp⟩
    simp only [T.rd, List.map_nil]
    exact ⟨_, [], rfl, by simp, Rd.nil_ w sz, by simp [T.rds]⟩
  · have hlm : len ≤ m := by rw [hmm]; split <;> omega
    have each : ∀ i, i < len → ∃ z : α × List Value, z.2.length = sz ∧ T.rd w (tr z.1) z.2 ∧ good z.1 ∧ ∀ j, j < sz → w.cell? (a.add (i * sz + j)) = z.2[j]? := by
      intro i hi
      obtain ⟨cs', h1, h2⟩ := hx i (by omega)
      rw [ce] at h1
      obtain ⟨_, hlen, hcell⟩ := World.cells?_some h1
      obtain ⟨z, hz, hg⟩ := hel _ _ _ h2
      refine ⟨(z, cs'), hlen, hz, hg, fun j hj => ?_⟩
      rw [← hcell j hj, add_add]
    obtain ⟨f, hf⟩ := @choose_lt (α × List Value) ⟨(dflt, [])⟩ len _ each
    let g : Nat → List Value := fun i => if i < len then (f i).2 else List.replicate sz (.bool true)
    have hgl : ∀ i, (g i).length = sz := fun i => by
      show (if i < len then (f i).2 else _).length = sz
      split
      · next hi => exact (hf i hi).1
      · simp
    have hgi : ∀ i, i < len → g i = (f i).2 := fun i hi => if_pos hi
    refine ⟨_, (List.range len).map fun i => (f i).1, rfl, ?_, ?_⟩
    · simp only [T.rd]
      refine ⟨_, (List.range len).flatMap g, rfl, ?_, ?_, ?_⟩
      · intro y hy
        obtain ⟨z, _, rfl⟩ := List.mem_map.1 hy
        exact hw z
      · have hlen : (((List.range len).map fun i => (f i).1).map tr).length = len := by simp
        rw [hlen]
        refine ⟨by rw [flat_len hgl]; simp, some a, cap, rfl, hl, by unfold maxLen at hm; omega, fun hn => ?_⟩
        have hc0 := (hf 0 hn).2.2.2 0 hs
        rw [List.getElem?_eq_getElem (by rw [(hf 0 hn).1]; exact hs)] at hc0
        have hz : a.add (0 * sz + 0) = a := by simp [Addr.add]
        rw [hz] at hc0
        have hsp : a.spot = none := by
          unfold World.cell? at hc0
          split at hc0
          · split at hc0
            · cases hc0
            · rename_i h'; simpa using h'
          · cases hc0
        obtain ⟨b, off, sp⟩ := a
        simp only at hsp
        subst hsp
        refine ⟨b, off, rfl, World.block_lt_of_cell? w _ hc0, fun j u hu => ?_⟩
        have hj : j < len * sz := by have := (List.getElem?_eq_some_iff.1 hu).1; rw [flat_len hgl] at this; simpa using this
        have hk : j / sz < len := (Nat.div_lt_iff_lt_mul hs).2 hj
        have hjm : j % sz < sz := Nat.mod_lt _ hs
        have ej : j / sz * sz + j % sz = j := by have := Nat.div_add_mod j sz; rw [Nat.mul_comm] at this; exact this
        have h1 := (hf (j / sz) hk).2.2.2 (j % sz) hjm
        have hin : (g (j / sz))[j % sz]? = some ((g (j / sz))[j % sz]'(by rw [hgl]; exact hjm)) := List.getElem?_eq_getElem _
        have h3 := flat_at hgl (xs := List.range len) (k := j / sz) (j := j % sz) (x := j / sz) (by simp [hk]) hin
        rw [ej, hu] at h3
        rw [ej, ← hgi _ hk, hin, ← h3] at h1
        rw [show (⟨b, off + j, none⟩ : Addr) = (⟨b, off, none⟩ : Addr).add j by unfold Addr.add; split <;> simp_all]
        exact h1
      · have := rds_range (w := w) (fun i => tr (f i).1) g (List.range len) (fun i hi => by
          have hi' := List.mem_range.1 hi
          rw [hgi i hi']; exact (hf i hi').2.1)
        rw [List.map_map]
        exact this
    · intro z hz
      simp only [List.mem_map, List.mem_range] at hz
      obtain ⟨i, hi, rfl⟩ := hz
      exact (hf i hi).2.2.1
end Go.Proofs.YtgmgjhdckepmmaaGreat
end
