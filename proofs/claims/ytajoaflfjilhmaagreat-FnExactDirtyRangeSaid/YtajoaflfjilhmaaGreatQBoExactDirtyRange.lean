/- Contract: the reference's ApplyEdit. Contract: the program's DirtyRange. Contract: the reference's DirtyRange. Contracts that the laws on sessions and edits share. Contracts on whole structs that own their memory. -/
import Derived.Test.YtajoaflfjilhmaaGreatQBbExactDirtyRange
import Derived.Test.YtajoaflfjilhmaaGreatQBjExactDirtyRange
import Derived.Test.YtajoaflfjilhmaaGreatQBkExactDirtyRange
import Derived.Test.YtajoaflfjilhmaaGreatQBmExactDirtyRange
import Derived.Test.YtajoaflfjilhmaaGreatQBnExactDirtyRange
import Derived.Test.YtajoaflfjilhmaaGreatQBiExactDirtyRange
import Derived.Test.YtajoaflfjilhmaaGreatQBfExactDirtyRange
import Derived.Test.YtajoaflfjilhmaaGreatQAlExactDirtyRange
set_option linter.unusedVariables false
set_option linter.unusedSimpArgs false
section
namespace Go.Proofs.YtajoaflfjilhmaaGreat
open Go.RowKit
set_option maxHeartbeats 8000000 in
set_option maxRecDepth 100000 in
theorem c_l31Apply (x : GSession) (b o : Nat) (ed : GEdit) (b' o' : Nat) (w : World) (hs : x.small) (he : T.at w ed.fs b' o') (h : T.at w x.fs b o) : Calls Tryz.prog 38 #[.pointer (some ⟨b, o, none⟩), .pointer (some ⟨b', o', none⟩)] w fun e w' => ∃ v1 v2 v3 v4 v5 F, e = .returned (.tuple #[.agg #[.int .i64 (applyF x ed).1.fLength, v1, v2, v3, v4, v5], .int .i64 (applyF x ed).2]) ∧ Nw w w' (applyF x ed).1.fs F [.int .i64 (applyF x ed).1.fLength, v1, v2, v3, v4, v5] := by
  have HAT := hide h
  obtain ⟨hlt0, cs, hr, hc⟩ := h
  obtain ⟨v1, v2, v3, v4, v5, rfl, h1, h2, h3, h4, h5⟩ := GSession.rd_open hr
  clear hr
  have R1 := hide h1; obtain ⟨va1, vc1, rfl, vl1, vm1, vx1⟩ := T.rd_openG h1
  have HX1 := hide vx1; clear vx1 h1
  have R2 := hide h2; obtain ⟨va2, vc2, rfl, vl2, vm2, vx2⟩ := T.rd_openG h2
  have HX2 := hide vx2; clear vx2 h2
  have h3i := T.rd_ints.1 h3; obtain ⟨va3, vc3, rfl, vl3, vm3, vx3⟩ := h3i.open_
  have R3 := hide h3i; have HX3 := hide vx3; clear vx3 h3 h3i
  have R4 := hide h4; obtain ⟨va4, vc4, rfl, vl4, vm4, vx4⟩ := T.rd_openG h4
  have HX4 := hide vx4; clear vx4 h4
  have R5 := hide h5; obtain ⟨va5, vc5, rfl, vl5, vm5, vx5⟩ := T.rd_openG h5
  have HX5 := hide vx5; clear vx5 h5
  have HL := hide hlt0; have HCC := hide hc; have HB0 := hide (Below.refl w.heap.size w); clear hlt0 hc
  have HSM := hide hs; have HEAT := hide he; clear hs
  obtain ⟨ek, et, ec, ev, ns, nf, nl, na, ng⟩ := ed
  obtain ⟨hlt', cs', hr', hc'⟩ := he
  obtain rfl := GEdit.rd_open hr'
  dsimp only at hc'
  have c0 : w.cell? ⟨b', o', none⟩ = some (.int .i64 ek) := hc' 0 _ rfl
  have c1 : w.cell? ⟨b', o' + 1, none⟩ = some (.int .i64 et) := hc' 1 _ rfl
  clear hc' hr'
  have p2 : w.cell? ⟨b, o + 2, none⟩ = some (.slice va2 x.fTracks.length vc2) := HCC.out 2 _ rfl
  have QA0 := hide (@applyF_session x ⟨ek, et, ec, ev, ⟨ns, nf, nl, na, ng⟩⟩); have QA1 := hide (@applyF_fields x ⟨ek, et, ec, ev, ⟨ns, nf, nl, na, ng⟩⟩); have QA2 := hide (@applyF_range x ⟨ek, et, ec, ev, ⟨ns, nf, nl, na, ng⟩⟩); have QA3 := hide (@applyF_full x ⟨ek, et, ec, ev, ⟨ns, nf, nl, na, ng⟩⟩); have QA4 := hide (@applyF_bad x ⟨ek, et, ec, ev, ⟨ns, nf, nl, na, ng⟩⟩); have QA5 := hide (@applyF_of x ⟨ek, et, ec, ev, ⟨ns, nf, nl, na, ng⟩⟩)
  have HBa := hide (show Below w.heap.size w (w.alloc (.cells #[.int .i64 0, .slice none 0 0, .slice none 0 0, .slice none 0 0, .slice none 0 0, .slice none 0 0] 32)) from (Below.refl _ _).alloc (Nat.le_refl _) _); have HRa := hide (Bk.born w 32 #[.int .i64 0, .slice none 0 0, .slice none 0 0, .slice none 0 0, .slice none 0 0, .slice none 0 0])
  obtain ⟨W, hW⟩ : ∃ W', W' = (w.alloc (.cells #[.int .i64 0, .slice none 0 0, .slice none 0 0, .slice none 0 0, .slice none 0 0, .slice none 0 0] 32)) := ⟨_, rfl⟩
  rw [← hW] at HBa HRa
  have HW := hide hW; clear hW
  generalize hAP : applyF x ⟨ek, et, ec, ev, ⟨ns, nf, nl, na, ng⟩⟩ = AP at *; have HAP := hide hAP; clear hAP
  go_enter Tryz.func38, Tryz.ntmps38
  go_wp2_with fail
  rw [← HW.out]
  refine (c_l27Ok x b o _ HSM.out (T.at_below HAT.out HBa.out)).mono ?_; rintro e w1 ⟨rfl, hb⟩
  have HB1 := hide (bthen HBa.out HBa.out.size hb); have HR1 := hide (HRa.out.below hb HRa.out.lt); clear hb
  have kr := HR1.out.cell; have fr := HR1.out.free; have lr := HR1.out.lt
  by_cases hS : SessionOk x
  rotate_left
  ·
    rw [tf_no hS]; have HA := hide (QA0.out hS); clear hS
    go_wp2
    refine bodyPost_ret (v := .tuple #[.agg #[.int .i64 0, .slice none 0 0, .slice none 0 0, .slice none 0 0, .slice none 0 0, .slice none 0 0], .int .i64 1]) (by simp [results, Tryz.results38, go_sem, kr, fr]) rfl ?_
    exact ⟨_, _, _, _, _, [], by rw [HA.out]; rfl, by rw [HA.out]; exact ⟨none_ows _, List.nodup_nil, by simp, ((((((HB1.out.setCell (by first | (simp; done) | (simp; omega) | omega) _).setCell (by first | (simp; done) | (simp; omega) | omega) _).setCell (by first | (simp; done) | (simp; omega) | omega) _).setCell (by first | (simp; done) | (simp; omega) | omega) _).setCell (by first | (simp; done) | (simp; omega) | omega) _).setCell (by first | (simp; done) | (simp; omega) | omega) _)⟩⟩
  rw [tf_yes hS]; have HV := hide hS; clear hS
  go_wp2_with fail
  refine (c_l31Fields ⟨ek, et, ec, ev, ⟨ns, nf, nl, na, ng⟩⟩ b' o' _ (T.at_below HEAT.out HB1.out)).mono ?_; rintro e w2 ⟨rfl, hb⟩
  have HB2 := hide (bthen HB1.out HB1.out.size hb); have HR2 := hide (HR1.out.below hb HR1.out.lt); clear hb kr fr lr
  have kr := HR2.out.cell; have fr := HR2.out.free; have lr := HR2.out.lt
  by_cases hF : FieldsOk ⟨ek, et, ec, ev, ⟨ns, nf, nl, na, ng⟩⟩
  rotate_left
  ·
    rw [tf_no hF]; have HA := hide (QA1.out HV.out hF); clear hF
    go_wp2
    refine bodyPost_ret (v := .tuple #[.agg #[.int .i64 0, .slice none 0 0, .slice none 0 0, .slice none 0 0, .slice none 0 0, .slice none 0 0], .int .i64 1]) (by simp [results, Tryz.results38, go_sem, kr, fr]) rfl ?_
    exact ⟨_, _, _, _, _, [], by rw [HA.out]; rfl, by rw [HA.out]; exact ⟨none_ows _, List.nodup_nil, by simp, ((((((HB2.out.setCell (by first | (simp; done) | (simp; omega) | omega) _).setCell (by first | (simp; done) | (simp; omega) | omega) _).setCell (by first | (simp; done) | (simp; omega) | omega) _).setCell (by first | (simp; done) | (simp; omega) | omega) _).setCell (by first | (simp; done) | (simp; omega) | omega) _).setCell (by first | (simp; done) | (simp; omega) | omega) _)⟩⟩
  rw [tf_yes hF]; have HF := hide hF; clear hF
  go_wp2_with fail
  refine (c_l31Range x b o ⟨ek, et, ec, ev, ⟨ns, nf, nl, na, ng⟩⟩ b' o' _ HSM.out (T.at_below HEAT.out HB2.out) (T.at_below HAT.out HB2.out)).mono ?_; rintro e w3 ⟨rfl, hb⟩
  have HB3 := hide (bthen HB2.out HB2.out.size hb); have HR3 := hide (HR2.out.below hb HR2.out.lt); clear hb kr fr lr
  have kr := HR3.out.cell; have fr := HR3.out.free; have lr := HR3.out.lt
  by_cases hRa : RangeOk x ⟨ek, et, ec, ev, ⟨ns, nf, nl, na, ng⟩⟩
  rotate_left
  ·
    rw [tf_no hRa]; have HA := hide (QA2.out HV.out HF.out hRa); clear hRa
    go_wp2
    refine bodyPost_ret (v := .tuple #[.agg #[.int .i64 0, .slice none 0 0, .slice none 0 0, .slice none 0 0, .slice none 0 0, .slice none 0 0], .int .i64 2]) (by simp [results, Tryz.results38, go_sem, kr, fr]) rfl ?_
    exact ⟨_, _, _, _, _, [], by rw [HA.out]; rfl, by rw [HA.out]; exact ⟨none_ows _, List.nodup_nil, by simp, ((((((HB3.out.setCell (by first | (simp; done) | (simp; omega) | omega) _).setCell (by first | (simp; done) | (simp; omega) | omega) _).setCell (by first | (simp; done) | (simp; omega) | omega) _).setCell (by first | (simp; done) | (simp; omega) | omega) _).setCell (by first | (simp; done) | (simp; omega) | omega) _).setCell (by first | (simp; done) | (simp; omega) | omega) _)⟩⟩
  rw [tf_yes hRa]; have HRG := hide hRa; clear hRa
  have HC0 := hide c0; have HC1 := hide c1; have HP2 := hide p2; clear c0 c1 p2
  by_cases k1 : ek = 1
  ·
    have q1 : (ek == 1) = true := beqI_t k1
    obtain ⟨k, t, hk, ht⟩ := range_track HRG.out (show ek ≠ 5 by omega)
    obtain rfl : et = (k : Int) := hk
    have hlt : k < x.fTracks.length := (List.getElem?_eq_some_iff.1 ht).1
    have HT := hide (clipsAt_of ht); have hn12 := (HV.out.tracks k t ht).1.few
    obtain ⟨b1, off, cs1, hA, hb1, hcs, hcell⟩ := HX2.out k t ht
    subst hA; clear ht
    have HBr := hide (Below.refl w.heap.size w)
    obtain ⟨u0, rfl, hRY0⟩ := GTrack.rd_open (show T.rds _ _ _ by simpa only [GTrack.t, T.rd] using hcs)
    have d0 := (HBr.out.cell hb1).trans (hcell 0 (u0) rfl)
    rw [show off + (k * 1 + 0) = off + k by omega] at d0
    have RY0 := hide (T.rd_below hRY0 HBr.out); clear hRY0
    clear hcs hcell
    obtain ⟨ua0, uc0, rfl, ul0, um0, -⟩ := T.rd_openG RY0.out
    have hi0 : (0 : Int) ≤ (k : Int) := by omega
    have hi1 : (k : Int) < (x.fTracks.length : Int) := by omega
    have a0 := (HB3.out.cell hlt').trans HC0.out; have a1 := (HB3.out.cell hlt').trans HC1.out; have a2 := (HB3.out.cell HL.out).trans HP2.out; have a3 := (HB3.out.cell hb1).trans d0
    by_cases c12 : 12 ≤ t.fClips.length
    ·
      have b12 : decide ((12 : Int) ≤ (t.fClips.length : Int)) = true := decide_eq_true (by omega)
      have HA := hide (QA3.out HV.out HF.out HRG.out k1 (by (try dsimp only); rw [HT.out]; exact c12)); clear k1
      go_wp2
      have g0 := bel_cell a0
      have g1 := bel_cell a1
      have g2 := bel_cell a2
      have g3 := bel_cell a3
      refine wp_region_bel (by kernel_rfl) (by kernel_rfl) ?_
      repeat (first | go_big_quiet_skip | (go_big_quiet_want; go_big_quiet_op; first | go_big_quiet_on | (apply Exists.intro; refine ⟨fun _ => ?_, ?_⟩; (· (fail)); go_big_quiet_on)))
      refine wpQuiet_nil ?_
      rintro w9 ⟨uu, rfl⟩
      have hb := bel_below w3 uu
      generalize bel w3 uu = w9 at *
      clear g0 g1 g2 g3
      have HB4 := hide (bthen HB3.out HB3.out.size hb); have HR4 := hide (HR3.out.below hb HR3.out.lt); clear hb kr fr lr
      have kr := HR4.out.cell; have fr := HR4.out.free; have lr := HR4.out.lt
      go_wp2
      refine bodyPost_ret (v := .tuple #[.agg #[.int .i64 0, .slice none 0 0, .slice none 0 0, .slice none 0 0, .slice none 0 0, .slice none 0 0], .int .i64 5]) (by simp [results, Tryz.results38, go_sem, kr, fr]) rfl ?_
      exact ⟨_, _, _, _, _, [], by rw [HA.out]; rfl, by rw [HA.out]; exact ⟨none_ows _, List.nodup_nil, by simp, ((((((HB4.out.setCell (by first | (simp; done) | (simp; omega) | omega) _).setCell (by first | (simp; done) | (simp; omega) | omega) _).setCell (by first | (simp; done) | (simp; omega) | omega) _).setCell (by first | (simp; done) | (simp; omega) | omega) _).setCell (by first | (simp; done) | (simp; omega) | omega) _).setCell (by first | (simp; done) | (simp; omega) | omega) _)⟩⟩
    have b12 : decide ((12 : Int) ≤ (t.fClips.length : Int)) = false := decide_eq_false (by omega)
    have HNF : Sec (¬ (ek = 1 ∧ 12 ≤ (clipsAt x (k : Int)).length)) := hide (fun h => c12 (by have h2 := h.2; rw [HT.out] at h2; exact h2)); clear k1
    go_wp2
    have g0 := bel_cell a0
    have g1 := bel_cell a1
    have g2 := bel_cell a2
    have g3 := bel_cell a3
    refine wp_region_bel (by kernel_rfl) (by kernel_rfl) ?_
    repeat (first | go_big_quiet_skip | (go_big_quiet_want; go_big_quiet_op; first | go_big_quiet_on | (apply Exists.intro; refine ⟨fun _ => ?_, ?_⟩; (· (fail)); go_big_quiet_on)))
    refine wpQuiet_nil ?_
    rintro w9 ⟨uu, rfl⟩
    have hb := bel_below w3 uu
    generalize bel w3 uu = w9 at *
    clear g0 g1 g2 g3
    have HB4 := hide (bthen HB3.out HB3.out.size hb); have HR4 := hide (HR3.out.below hb HR3.out.lt); clear hb kr fr lr
    have kr := HR4.out.cell; have fr := HR4.out.free; have lr := HR4.out.lt
    clear a0 a1 a2 a3 d0 q1 b12 c12 hn12 hi0 hi1 RY0 um0 ul0
    go_wp2_with fail
    refine (c_l27Own x b o _ HSM.out (T.at_below HAT.out HB4.out)).mono ?_; rintro e wC ⟨v1, v2, v3, v4, v5, F, rfl, hN⟩
    have hb := hN.below
    obtain ⟨⟨A1, L1, C1, rfl⟩, ⟨A2, L2, C2, rfl⟩, ⟨A3, L3, C3, rfl⟩, ⟨A4, L4, C4, rfl⟩, ⟨A5, L5, C5, rfl⟩⟩ := GSession.sl5 (T.ows_rds _ _ _ hN.ows)
    have HN := hide hN; clear hN
    have h9C := hb.size
    have HB5 := hide (bthen HB4.out HB4.out.size hb); have HR5 := hide (HR4.out.below hb HR4.out.lt); clear hb kr fr lr
    have kr := HR5.out.cell; have fr := HR5.out.free; have lr := HR5.out.lt
    have hFl := T.ows_lt _ _ _ HN.out.ows
    have hlb' : b' < w9.heap.size := Nat.lt_of_lt_of_le hlt' HB4.out.size
    have hlr := HR4.out.lt
    have HX := hide (show Below wC.heap.size wC (wC.alloc (.cells #[.int .i64 x.fLength, .slice A1 L1 C1, .slice A2 L2 C2, .slice A3 L3 C3, .slice A4 L4 C4, .slice A5 L5 C5] 32)) from (Below.refl _ _).alloc (Nat.le_refl _) _)
    have HBX := hide (HB5.out.alloc HB5.out.size (.cells #[.int .i64 x.fLength, .slice A1 L1 C1, .slice A2 L2 C2, .slice A3 L3 C3, .slice A4 L4 C4, .slice A5 L5 C5] 32)); have HRX := hide (HR5.out.alloc (.cells #[.int .i64 x.fLength, .slice A1 L1 C1, .slice A2 L2 C2, .slice A3 L3 C3, .slice A4 L4 C4, .slice A5 L5 C5] 32)); have HOX := hide (Bk.born wC 32 #[.int .i64 x.fLength, .slice A1 L1 C1, .slice A2 L2 C2, .slice A3 L3 C3, .slice A4 L4 C4, .slice A5 L5 C5])
    have hnF : wC.heap.size ∉ F := fun hm => by have := hFl _ hm; omega
    have hbF : b' ∉ F := fun hm => by have := HN.out.lo _ hm; omega
    have hrF : w.heap.size ∉ F := fun hm => by have := HN.out.lo _ hm; omega
    have HNF1 := hide hnF; have HNF2 := hide hbF; have HNF3 := hide hrF; clear hnF hbF hrF hFl hlb' hlr kr fr lr
    go_wp2_with fail
    refine (c_l31Do x wC.heap.size ⟨ek, (k : Int), ec, ev, ⟨ns, nf, nl, na, ng⟩⟩ b' o' F _ _ _ _ _ _ HSM.out HV.out HF.out HRG.out HOX.out (T.ows_all HN.out.ows HX.out) HN.out.nodup (T.at_below HEAT.out HBX.out) HNF1.out HNF2.out).mono ?_; rintro e wD ⟨rfl, F', hO, hnd, hmm, htr⟩
    have HO := hide hO; have HND := hide hnd; have HMM := hide hmm
    have HB6 := hide (htr.below HBX.out (fun c hc => by have h1 := HN.out.lo c hc; have h2 := HB4.out.size; omega) HBX.out.size); have HR6 := hide (HRX.out.trn htr HNF3.out); have HO6 := hide (HOX.out.trn htr HNF1.out)
    have hsz := htr.size; clear hO hnd hmm htr
    have HAD := hide (show T.at wD (doE x ⟨ek, (k : Int), ec, ev, ⟨ns, nf, nl, na, ng⟩⟩).fs wC.heap.size 0 from ⟨HO6.out.lt, _, T.ows_rds _ _ _ HO.out, fun i u hi => by rw [Nat.zero_add]; exact (HO6.out.cell i).trans (by simpa using hi)⟩)
    go_wp2_with fail
    refine (c_l27Ok (doE x ⟨ek, (k : Int), ec, ev, ⟨ns, nf, nl, na, ng⟩⟩) wC.heap.size 0 _ (doE_small HSM.out HV.out) HAD.out).mono ?_; rintro e wE ⟨rfl, hb⟩
    have HO7 := hide (HO6.out.below hb HO6.out.lt); have HOW := hide (T.ows_all HO.out hb); have hDE := hb.size
    have HB7 := hide (bthen HB6.out HB6.out.size hb); have HR7 := hide (HR6.out.below hb HR6.out.lt); clear hb
    have kr := HR7.out.cell; have fr := HR7.out.free; have lr := HR7.out.lt; have ko := HO7.out.cell; have fo := HO7.out.free; have lo := HO7.out.lt
    have nn1 : ¬ wC.heap.size = w.heap.size := by have := HR5.out.lt; omega
    have nn2 : ¬ w.heap.size = wC.heap.size := fun e => nn1 e.symm
    by_cases hD : SessionOk (doE x ⟨ek, (k : Int), ec, ev, ⟨ns, nf, nl, na, ng⟩⟩)
    rotate_left
    ·
      rw [tf_no hD]; have HA := hide (QA4.out HV.out HF.out HRG.out HNF.out hD); clear hD
      go_wp2
      refine bodyPost_ret (v := .tuple #[.agg #[.int .i64 0, .slice none 0 0, .slice none 0 0, .slice none 0 0, .slice none 0 0, .slice none 0 0], .int .i64 6]) (by simp [results, Tryz.results38, go_sem, kr, fr]) rfl ?_
      exact ⟨_, _, _, _, _, [], by rw [HA.out]; rfl, by rw [HA.out]; exact ⟨none_ows _, List.nodup_nil, by simp, ((((((HB7.out.setCell (by first | (simp; done) | (simp; omega) | omega) _).setCell (by first | (simp; done) | (simp; omega) | omega) _).setCell (by first | (simp; done) | (simp; omega) | omega) _).setCell (by first | (simp; done) | (simp; omega) | omega) _).setCell (by first | (simp; done) | (simp; omega) | omega) _).setCell (by first | (simp; done) | (simp; omega) | omega) _)⟩⟩
    rw [tf_yes hD]; have HA := hide (QA5.out HV.out HF.out HRG.out HNF.out hD); clear hD
    go_wp2
    refine bodyPost_ret (v := .tuple #[.agg #[.int .i64 x.fLength, .slice A1 L1 C1, .slice A2 L2 C2, .slice A3 L3 C3, .slice A4 L4 C4, .slice A5 L5 C5], .int .i64 0]) (by simp [results, Tryz.results38, go_sem, ko, fo, kr, fr, nn1, nn2, lr]) rfl ?_
    have hzR : w.heap.size ∉ F' := fun hm => by rcases HMM.out _ hm with h | h; (· exact HNF3.out h); (· have h2 := HRX.out.lt; omega)
    have hlen : (doE x ⟨ek, (k : Int), ec, ev, ⟨ns, nf, nl, na, ng⟩⟩).fLength = x.fLength := by unfold doE; split; rfl; split; rfl; rfl
    exact ⟨_, _, _, _, _, F', by rw [HA.out]; dsimp only; rw [hlen], by rw [HA.out]; dsimp only; rw [hlen]; exact ⟨(T.ows_far (T.ows_far (T.ows_far (T.ows_far (T.ows_far (T.ows_far HOW.out hzR _ _) hzR _ _) hzR _ _) hzR _ _) hzR _ _) hzR _ _), HND.out, fun c hc => by rcases HMM.out c hc with h | h; (· have h1 := HN.out.lo c h; have h2 := HB4.out.size; omega); (· have h2 := HBX.out.size; omega), ((((((HB7.out.setCell (by first | (simp; done) | (simp; omega) | omega) _).setCell (by first | (simp; done) | (simp; omega) | omega) _).setCell (by first | (simp; done) | (simp; omega) | omega) _).setCell (by first | (simp; done) | (simp; omega) | omega) _).setCell (by first | (simp; done) | (simp; omega) | omega) _).setCell (by first | (simp; done) | (simp; omega) | omega) _)⟩⟩
  have q1 : (ek == 1) = false := beqI_f k1
  have HNF : Sec (¬ (ek = 1 ∧ 12 ≤ (clipsAt x et).length)) := hide (fun h => k1 h.1); clear k1
  have a0 := (HB3.out.cell hlt').trans HC0.out
  go_wp2
  have g0 := bel_cell a0
  refine wp_region_bel (by kernel_rfl) (by kernel_rfl) ?_
  repeat (first | go_big_quiet_skip | (go_big_quiet_want; go_big_quiet_op; first | go_big_quiet_on | (apply Exists.intro; refine ⟨fun _ => ?_, ?_⟩; (· (fail)); go_big_quiet_on)))
  refine wpQuiet_nil ?_
  rintro w9 ⟨uu, rfl⟩
  have hb := bel_below w3 uu
  generalize bel w3 uu = w9 at *
  clear g0
  have HB4 := hide (bthen HB3.out HB3.out.size hb); have HR4 := hide (HR3.out.below hb HR3.out.lt); clear hb kr fr lr
  have kr := HR4.out.cell; have fr := HR4.out.free; have lr := HR4.out.lt
  clear a0 q1
  go_wp2_with fail
  refine (c_l27Own x b o _ HSM.out (T.at_below HAT.out HB4.out)).mono ?_; rintro e wC ⟨v1, v2, v3, v4, v5, F, rfl, hN⟩
  have hb := hN.below
  obtain ⟨⟨A1, L1, C1, rfl⟩, ⟨A2, L2, C2, rfl⟩, ⟨A3, L3, C3, rfl⟩, ⟨A4, L4, C4, rfl⟩, ⟨A5, L5, C5, rfl⟩⟩ := GSession.sl5 (T.ows_rds _ _ _ hN.ows)
  have HN := hide hN; clear hN
  have h9C := hb.size
  have HB5 := hide (bthen HB4.out HB4.out.size hb); have HR5 := hide (HR4.out.below hb HR4.out.lt); clear hb kr fr lr
  have kr := HR5.out.cell; have fr := HR5.out.free; have lr := HR5.out.lt
  have hFl := T.ows_lt _ _ _ HN.out.ows
  have hlb' : b' < w9.heap.size := Nat.lt_of_lt_of_le hlt' HB4.out.size
  have hlr := HR4.out.lt
  have HX := hide (show Below wC.heap.size wC (wC.alloc (.cells #[.int .i64 x.fLength, .slice A1 L1 C1, .slice A2 L2 C2, .slice A3 L3 C3, .slice A4 L4 C4, .slice A5 L5 C5] 32)) from (Below.refl _ _).alloc (Nat.le_refl _) _)
  have HBX := hide (HB5.out.alloc HB5.out.size (.cells #[.int .i64 x.fLength, .slice A1 L1 C1, .slice A2 L2 C2, .slice A3 L3 C3, .slice A4 L4 C4, .slice A5 L5 C5] 32)); have HRX := hide (HR5.out.alloc (.cells #[.int .i64 x.fLength, .slice A1 L1 C1, .slice A2 L2 C2, .slice A3 L3 C3, .slice A4 L4 C4, .slice A5 L5 C5] 32)); have HOX := hide (Bk.born wC 32 #[.int .i64 x.fLength, .slice A1 L1 C1, .slice A2 L2 C2, .slice A3 L3 C3, .slice A4 L4 C4, .slice A5 L5 C5])
  have hnF : wC.heap.size ∉ F := fun hm => by have := hFl _ hm; omega
  have hbF : b' ∉ F := fun hm => by have := HN.out.lo _ hm; omega
  have hrF : w.heap.size ∉ F := fun hm => by have := HN.out.lo _ hm; omega
  have HNF1 := hide hnF; have HNF2 := hide hbF; have HNF3 := hide hrF; clear hnF hbF hrF hFl hlb' hlr kr fr lr
  go_wp2_with fail
  refine (c_l31Do x wC.heap.size ⟨ek, et, ec, ev, ⟨ns, nf, nl, na, ng⟩⟩ b' o' F _ _ _ _ _ _ HSM.out HV.out HF.out HRG.out HOX.out (T.ows_all HN.out.ows HX.out) HN.out.nodup (T.at_below HEAT.out HBX.out) HNF1.out HNF2.out).mono ?_; rintro e wD ⟨rfl, F', hO, hnd, hmm, htr⟩
  have HO := hide hO; have HND := hide hnd; have HMM := hide hmm
  have HB6 := hide (htr.below HBX.out (fun c hc => by have h1 := HN.out.lo c hc; have h2 := HB4.out.size; omega) HBX.out.size); have HR6 := hide (HRX.out.trn htr HNF3.out); have HO6 := hide (HOX.out.trn htr HNF1.out)
  have hsz := htr.size; clear hO hnd hmm htr
  have HAD := hide (show T.at wD (doE x ⟨ek, et, ec, ev, ⟨ns, nf, nl, na, ng⟩⟩).fs wC.heap.size 0 from ⟨HO6.out.lt, _, T.ows_rds _ _ _ HO.out, fun i u hi => by rw [Nat.zero_add]; exact (HO6.out.cell i).trans (by simpa using hi)⟩)
  go_wp2_with fail
  refine (c_l27Ok (doE x ⟨ek, et, ec, ev, ⟨ns, nf, nl, na, ng⟩⟩) wC.heap.size 0 _ (doE_small HSM.out HV.out) HAD.out).mono ?_; rintro e wE ⟨rfl, hb⟩
  have HO7 := hide (HO6.out.below hb HO6.out.lt); have HOW := hide (T.ows_all HO.out hb); have hDE := hb.size
  have HB7 := hide (bthen HB6.out HB6.out.size hb); have HR7 := hide (HR6.out.below hb HR6.out.lt); clear hb
  have kr := HR7.out.cell; have fr := HR7.out.free; have lr := HR7.out.lt; have ko := HO7.out.cell; have fo := HO7.out.free; have lo := HO7.out.lt
  have nn1 : ¬ wC.heap.size = w.heap.size := by have := HR5.out.lt; omega
  have nn2 : ¬ w.heap.size = wC.heap.size := fun e => nn1 e.symm
  by_cases hD : SessionOk (doE x ⟨ek, et, ec, ev, ⟨ns, nf, nl, na, ng⟩⟩)
  rotate_left
  ·
    rw [tf_no hD]; have HA := hide (QA4.out HV.out HF.out HRG.out HNF.out hD); clear hD
    go_wp2
    refine bodyPost_ret (v := .tuple #[.agg #[.int .i64 0, .slice none 0 0, .slice none 0 0, .slice none 0 0, .slice none 0 0, .slice none 0 0], .int .i64 6]) (by simp [results, Tryz.results38, go_sem, kr, fr]) rfl ?_
    exact ⟨_, _, _, _, _, [], by rw [HA.out]; rfl, by rw [HA.out]; exact ⟨none_ows _, List.nodup_nil, by simp, ((((((HB7.out.setCell (by first | (simp; done) | (simp; omega) | omega) _).setCell (by first | (simp; done) | (simp; omega) | omega) _).setCell (by first | (simp; done) | (simp; omega) | omega) _).setCell (by first | (simp; done) | (simp; omega) | omega) _).setCell (by first | (simp; done) | (simp; omega) | omega) _).setCell (by first | (simp; done) | (simp; omega) | omega) _)⟩⟩
  rw [tf_yes hD]; have HA := hide (QA5.out HV.out HF.out HRG.out HNF.out hD); clear hD
  go_wp2
  refine bodyPost_ret (v := .tuple #[.agg #[.int .i64 x.fLength, .slice A1 L1 C1, .slice A2 L2 C2, .slice A3 L3 C3, .slice A4 L4 C4, .slice A5 L5 C5], .int .i64 0]) (by simp [results, Tryz.results38, go_sem, ko, fo, kr, fr, nn1, nn2, lr]) rfl ?_
  have hzR : w.heap.size ∉ F' := fun hm => by rcases HMM.out _ hm with h | h; (· exact HNF3.out h); (· have h2 := HRX.out.lt; omega)
  have hlen : (doE x ⟨ek, et, ec, ev, ⟨ns, nf, nl, na, ng⟩⟩).fLength = x.fLength := by unfold doE; split; rfl; split; rfl; rfl
  exact ⟨_, _, _, _, _, F', by rw [HA.out]; dsimp only; rw [hlen], by rw [HA.out]; dsimp only; rw [hlen]; exact ⟨(T.ows_far (T.ows_far (T.ows_far (T.ows_far (T.ows_far (T.ows_far HOW.out hzR _ _) hzR _ _) hzR _ _) hzR _ _) hzR _ _) hzR _ _), HND.out, fun c hc => by rcases HMM.out c hc with h | h; (· have h1 := HN.out.lo c h; have h2 := HB4.out.size; omega); (· have h2 := HBX.out.size; omega), ((((((HB7.out.setCell (by first | (simp; done) | (simp; omega) | omega) _).setCell (by first | (simp; done) | (simp; omega) | omega) _).setCell (by first | (simp; done) | (simp; omega) | omega) _).setCell (by first | (simp; done) | (simp; omega) | omega) _).setCell (by first | (simp; done) | (simp; omega) | omega) _).setCell (by first | (simp; done) | (simp; omega) | omega) _)⟩⟩
end Go.Proofs.YtajoaflfjilhmaaGreat
end
section
namespace Go.Proofs.YtajoaflfjilhmaaGreat
open Go.RowKit
theorem dirtyF_no {s : GSession} {e : GEdit} (h : ¬ (applyF s e).2 = 0) : dirtyF s e = (0, 0, (applyF s e).2) := by unfold dirtyF; rw [if_neg h]
theorem dirtyF_yes {s : GSession} {e : GEdit} (h : (applyF s e).2 = 0) : dirtyF s e = ((rangeOf s e).1, (rangeOf s e).2, 0) := by unfold dirtyF; rw [if_pos h]
set_option maxHeartbeats 2000000 in
set_option maxRecDepth 100000 in
theorem c_iDirtyRange (x : GSession) (cs : List Value) (ed : GEdit) (w : World) (hs : x.small) (h : T.rds w x.fs cs) : Calls Tryz.prog 17 #[.agg cs.toArray, .agg #[.int .i64 ed.fKind, .int .i64 ed.fTrack, .int .i64 ed.fClip, .int .i64 ed.fValue, .int .i64 ed.fNew.fSource, .int .i64 ed.fNew.fFrom, .int .i64 ed.fNew.fLength, .int .i64 ed.fNew.fAt, .int .i64 ed.fNew.fGain]] w fun e w' => e = .returned (.tuple #[.int .i64 (dirtyF x ed).1, .int .i64 (dirtyF x ed).2.1, .int .i64 (dirtyF x ed).2.2]) ∧ Below w.heap.size w w' := by
  obtain ⟨v1, v2, v3, v4, v5, rfl, h1, h2, h3, h4, h5⟩ := GSession.rd_open h
  clear h
  have R1 := hide h1; obtain ⟨va1, vc1, rfl, vl1, vm1, vx1⟩ := T.rd_openG h1
  have HX1 := hide vx1; clear vx1 h1
  have R2 := hide h2; obtain ⟨va2, vc2, rfl, vl2, vm2, vx2⟩ := T.rd_openG h2
  have HX2 := hide vx2; clear vx2 h2
  have h3i := T.rd_ints.1 h3; obtain ⟨va3, vc3, rfl, vl3, vm3, vx3⟩ := h3i.open_
  have R3 := hide h3i; have HX3 := hide vx3; clear vx3 h3 h3i
  have R4 := hide h4; obtain ⟨va4, vc4, rfl, vl4, vm4, vx4⟩ := T.rd_openG h4
  have HX4 := hide vx4; clear vx4 h4
  have R5 := hide h5; obtain ⟨va5, vc5, rfl, vl5, vm5, vx5⟩ := T.rd_openG h5
  have HX5 := hide vx5; clear vx5 h5
  have HB0 := hide (show Below w.heap.size w (w.alloc (.cells #[.int .i64 x.fLength, (.slice va1 x.fSources.length vc1), (.slice va2 x.fTracks.length vc2), (.slice va3 x.fFeeds.length vc3), (.slice va4 x.fEffects.length vc4), (.slice va5 x.fMixer.fStrips.length vc5)] 32)) from (Below.refl _ _).alloc (Nat.le_refl _) _)
  have HK0 := hide (Bk.born w 32 #[.int .i64 x.fLength, (.slice va1 x.fSources.length vc1), (.slice va2 x.fTracks.length vc2), (.slice va3 x.fFeeds.length vc3), (.slice va4 x.fEffects.length vc4), (.slice va5 x.fMixer.fStrips.length vc5)])
  have HSM := hide hs; clear hs
  have GX := hide (show ∀ w', Below w.heap.size w w' → T.rds w' x.fs [.int .i64 x.fLength, (.slice va1 x.fSources.length vc1), (.slice va2 x.fTracks.length vc2), (.slice va3 x.fFeeds.length vc3), (.slice va4 x.fEffects.length vc4), (.slice va5 x.fMixer.fStrips.length vc5)] from fun w' hb => GSession.rd_mk (T.rd_below R1.out hb) (T.rd_below R2.out hb) (T.rd_ints.2 (Rd.below R3.out hb)) (T.rd_below R4.out hb) (T.rd_below R5.out hb))
  have IA := hide (fun (W : World) (hb : Below w.heap.size w W) => c_iApplyEdit x _ ed W HSM.out (GX.out W hb))
  have ID := hide (fun (W : World) (hb : Below w.heap.size w W) (hc : (applyF x ed).2 = 0) => c_dirtyRange x _ ed W (applyF_ok hc).1 (applyF_ok hc).2.1 (applyF_ok hc).2.2.1 (GX.out W hb))
  have D0 := hide (@dirtyF_no x ed); have D1 := hide (@dirtyF_yes x ed)
  have HBa := hide (HB0.out.alloc HB0.out.size (.cells #[.int .i64 ed.fKind, .int .i64 ed.fTrack, .int .i64 ed.fClip, .int .i64 ed.fValue, .int .i64 ed.fNew.fSource, .int .i64 ed.fNew.fFrom, .int .i64 ed.fNew.fLength, .int .i64 ed.fNew.fAt, .int .i64 ed.fNew.fGain] 41))
  have HP := hide (HK0.out.alloc (.cells #[.int .i64 ed.fKind, .int .i64 ed.fTrack, .int .i64 ed.fClip, .int .i64 ed.fValue, .int .i64 ed.fNew.fSource, .int .i64 ed.fNew.fFrom, .int .i64 ed.fNew.fLength, .int .i64 ed.fNew.fAt, .int .i64 ed.fNew.fGain] 41)); have HE := hide (Bk.born1' w (.cells #[.int .i64 x.fLength, (.slice va1 x.fSources.length vc1), (.slice va2 x.fTracks.length vc2), (.slice va3 x.fFeeds.length vc3), (.slice va4 x.fEffects.length vc4), (.slice va5 x.fMixer.fStrips.length vc5)] 32) 41 #[.int .i64 ed.fKind, .int .i64 ed.fTrack, .int .i64 ed.fClip, .int .i64 ed.fValue, .int .i64 ed.fNew.fSource, .int .i64 ed.fNew.fFrom, .int .i64 ed.fNew.fLength, .int .i64 ed.fNew.fAt, .int .i64 ed.fNew.fGain])
  clear HB0 HK0
  generalize hW4 : ((w.alloc (.cells #[.int .i64 x.fLength, (.slice va1 x.fSources.length vc1), (.slice va2 x.fTracks.length vc2), (.slice va3 x.fFeeds.length vc3), (.slice va4 x.fEffects.length vc4), (.slice va5 x.fMixer.fStrips.length vc5)] 32)).alloc (.cells #[.int .i64 ed.fKind, .int .i64 ed.fTrack, .int .i64 ed.fClip, .int .i64 ed.fValue, .int .i64 ed.fNew.fSource, .int .i64 ed.fNew.fFrom, .int .i64 ed.fNew.fLength, .int .i64 ed.fNew.fAt, .int .i64 ed.fNew.fGain] 41)) = W4 at *
  have HW4 := hide hW4; clear hW4
  generalize hDF : dirtyF x ed = DF at *; clear hDF
  go_enter Tryz.func17, Tryz.ntmps17
  go_wp2_with fail
  rw [HW4.out]
  refine (IA.out _ HBa.out).mono ?_; rintro e wA ⟨v1, v2, v3, v4, v5, F, rfl, hN⟩
  have hb := hN.below
  obtain ⟨⟨A1, L1, C1, rfl⟩, ⟨A2, L2, C2, rfl⟩, ⟨A3, L3, C3, rfl⟩, ⟨A4, L4, C4, rfl⟩, ⟨A5, L5, C5, rfl⟩⟩ := GSession.sl5 (T.ows_rds _ _ _ hN.ows)
  clear hN
  generalize applyF x ed = AF at *
  have HX := hide (show Below W4.heap.size W4 (wA.alloc (.cells #[.int .i64 AF.1.fLength, .slice A1 L1 C1, .slice A2 L2 C2, .slice A3 L3 C3, .slice A4 L4 C4, .slice A5 L5 C5] 32)) from hb.alloc hb.size _)
  have HB2 := hide (bthen HBa.out HBa.out.size HX.out); have HP2 := hide (HP.out.below HX.out HP.out.lt); have HE2 := hide (HE.out.below HX.out HE.out.lt)
  have HP1 := hide (HP.out.below hb HP.out.lt); have HE1 := hide (HE.out.below hb HE.out.lt); clear hb
  have kp := HP1.out.cell; have lp := HP1.out.lt; have ke := HE1.out.cell; have le := HE1.out.lt
  by_cases hc : AF.2 = 0
  rotate_left
  ·
    have q0 : (AF.2 != 0) = true := bneI_t hc
    have HD := hide (D0.out hc); clear hc
    go_wp2
    refine bodyPost_ret (v := .tuple #[.int .i64 0, .int .i64 0, .int .i64 AF.2]) (by simp [results, Tryz.results17, go_sem]) rfl ?_
    exact ⟨by rw [HD.out], HB2.out⟩
  have q0 : (AF.2 != 0) = false := bneI_f hc
  have HD := hide (D1.out hc); have HC := hide hc; clear hc
  go_wp2_with fail
  refine (ID.out _ HB2.out HC.out).mono ?_; rintro e wB ⟨rfl, hb⟩
  have HB3 := hide (bthen HB2.out HB2.out.size hb); clear hb
  go_wp2
  refine bodyPost_ret (v := .tuple #[.int .i64 (rangeOf x ed).1, .int .i64 (rangeOf x ed).2, .int .i64 0]) (by simp [results, Tryz.results17, go_sem]) rfl ?_
  exact ⟨by rw [HD.out], HB3.out⟩
end Go.Proofs.YtajoaflfjilhmaaGreat
end
section
namespace Go.Proofs.YtajoaflfjilhmaaGreat
open Go.RowKit
set_option maxHeartbeats 8000000 in
set_option maxRecDepth 100000 in
theorem c_sDirtyRange (x : GSession) (cs : List Value) (ed : GEdit) (w : World) (hs : x.small) (h : T.rds w x.fs cs) : Calls Tryz.prog 14 #[.agg cs.toArray, .agg #[.int .i64 ed.fKind, .int .i64 ed.fTrack, .int .i64 ed.fClip, .int .i64 ed.fValue, .int .i64 ed.fNew.fSource, .int .i64 ed.fNew.fFrom, .int .i64 ed.fNew.fLength, .int .i64 ed.fNew.fAt, .int .i64 ed.fNew.fGain]] w fun e w' => e = .returned (.tuple #[.int .i64 (dirtyF x ed).1, .int .i64 (dirtyF x ed).2.1, .int .i64 (dirtyF x ed).2.2]) ∧ Below w.heap.size w w' := by
  obtain ⟨v1, v2, v3, v4, v5, rfl, h1, h2, h3, h4, h5⟩ := GSession.rd_open h
  clear h
  have R1 := hide h1; obtain ⟨va1, vc1, rfl, vl1, vm1, vx1⟩ := T.rd_openG h1
  have HX1 := hide vx1; clear vx1 h1
  have R2 := hide h2; obtain ⟨va2, vc2, rfl, vl2, vm2, vx2⟩ := T.rd_openG h2
  have HX2 := hide vx2; clear vx2 h2
  have h3i := T.rd_ints.1 h3; obtain ⟨va3, vc3, rfl, vl3, vm3, vx3⟩ := h3i.open_
  have R3 := hide h3i; have HX3 := hide vx3; clear vx3 h3 h3i
  have R4 := hide h4; obtain ⟨va4, vc4, rfl, vl4, vm4, vx4⟩ := T.rd_openG h4
  have HX4 := hide vx4; clear vx4 h4
  have R5 := hide h5; obtain ⟨va5, vc5, rfl, vl5, vm5, vx5⟩ := T.rd_openG h5
  have HX5 := hide vx5; clear vx5 h5
  have HB0 := hide (show Below w.heap.size w (w.alloc (.cells #[.int .i64 x.fLength, (.slice va1 x.fSources.length vc1), (.slice va2 x.fTracks.length vc2), (.slice va3 x.fFeeds.length vc3), (.slice va4 x.fEffects.length vc4), (.slice va5 x.fMixer.fStrips.length vc5)] 32)) from (Below.refl _ _).alloc (Nat.le_refl _) _)
  have HK0 := hide (Bk.born w 32 #[.int .i64 x.fLength, (.slice va1 x.fSources.length vc1), (.slice va2 x.fTracks.length vc2), (.slice va3 x.fFeeds.length vc3), (.slice va4 x.fEffects.length vc4), (.slice va5 x.fMixer.fStrips.length vc5)])
  have HSM := hide hs; clear hs
  have GX := hide (show ∀ w', Below w.heap.size w w' → T.rds w' x.fs [.int .i64 x.fLength, (.slice va1 x.fSources.length vc1), (.slice va2 x.fTracks.length vc2), (.slice va3 x.fFeeds.length vc3), (.slice va4 x.fEffects.length vc4), (.slice va5 x.fMixer.fStrips.length vc5)] from fun w' hb => GSession.rd_mk (T.rd_below R1.out hb) (T.rd_below R2.out hb) (T.rd_ints.2 (Rd.below R3.out hb)) (T.rd_below R4.out hb) (T.rd_below R5.out hb))
  have HBa := hide (HB0.out.alloc (by simp) (.cells #[.int .i64 ed.fKind, .int .i64 ed.fTrack, .int .i64 ed.fClip, .int .i64 ed.fValue, .int .i64 ed.fNew.fSource, .int .i64 ed.fNew.fFrom, .int .i64 ed.fNew.fLength, .int .i64 ed.fNew.fAt, .int .i64 ed.fNew.fGain] 41))
  have HP := hide (HK0.out.alloc (.cells #[.int .i64 ed.fKind, .int .i64 ed.fTrack, .int .i64 ed.fClip, .int .i64 ed.fValue, .int .i64 ed.fNew.fSource, .int .i64 ed.fNew.fFrom, .int .i64 ed.fNew.fLength, .int .i64 ed.fNew.fAt, .int .i64 ed.fNew.fGain] 41)); have HE := hide (Bk.born1' w (.cells #[.int .i64 x.fLength, (.slice va1 x.fSources.length vc1), (.slice va2 x.fTracks.length vc2), (.slice va3 x.fFeeds.length vc3), (.slice va4 x.fEffects.length vc4), (.slice va5 x.fMixer.fStrips.length vc5)] 32) 41 #[.int .i64 ed.fKind, .int .i64 ed.fTrack, .int .i64 ed.fClip, .int .i64 ed.fValue, .int .i64 ed.fNew.fSource, .int .i64 ed.fNew.fFrom, .int .i64 ed.fNew.fLength, .int .i64 ed.fNew.fAt, .int .i64 ed.fNew.fGain])
  clear HB0 HK0
  obtain ⟨W, hW⟩ : ∃ W', W' = ((w.alloc (.cells #[.int .i64 x.fLength, (.slice va1 x.fSources.length vc1), (.slice va2 x.fTracks.length vc2), (.slice va3 x.fFeeds.length vc3), (.slice va4 x.fEffects.length vc4), (.slice va5 x.fMixer.fStrips.length vc5)] 32)).alloc (.cells #[.int .i64 ed.fKind, .int .i64 ed.fTrack, .int .i64 ed.fClip, .int .i64 ed.fValue, .int .i64 ed.fNew.fSource, .int .i64 ed.fNew.fFrom, .int .i64 ed.fNew.fLength, .int .i64 ed.fNew.fAt, .int .i64 ed.fNew.fGain] 41)) := ⟨_, rfl⟩
  rw [← hW] at HBa HP HE
  have HW := hide hW; clear hW
  have HAT := hide (show T.at W x.fs w.heap.size 0 from ⟨HP.out.lt, _, GX.out W HBa.out, fun i u hi => by rw [Nat.zero_add]; exact (HP.out.cell i).trans (by simpa using hi)⟩)
  have HEAT := hide (show T.at W ed.fs (w.heap.size + 1) 0 from ⟨HE.out.lt, _, GEdit.rd_mk, fun i u hi => by rw [Nat.zero_add]; exact (HE.out.cell i).trans (by simpa using hi)⟩)
  have OK := hide (@applyF_ok x ed)
  have D0 := hide (@dirtyF_no x ed); have D1 := hide (@dirtyF_yes x ed)
  generalize hDF : dirtyF x ed = DF at *; clear hDF
  go_enter Tryz.func14, Tryz.ntmps14
  go_wp2_with fail
  rw [← HW.out]
  refine (c_l31Apply x w.heap.size 0 ed (w.heap.size + 1) 0 _ HSM.out HEAT.out HAT.out).mono ?_; rintro e wA ⟨v1, v2, v3, v4, v5, F, rfl, hN⟩
  have hb := hN.below
  obtain ⟨⟨A1, L1, C1, rfl⟩, ⟨A2, L2, C2, rfl⟩, ⟨A3, L3, C3, rfl⟩, ⟨A4, L4, C4, rfl⟩, ⟨A5, L5, C5, rfl⟩⟩ := GSession.sl5 (T.ows_rds _ _ _ hN.ows)
  clear hN
  generalize hAF : applyF x ed = AF at *; clear hAF
  have HX := hide (show Below W.heap.size W (wA.alloc (.cells #[.int .i64 AF.1.fLength, .slice A1 L1 C1, .slice A2 L2 C2, .slice A3 L3 C3, .slice A4 L4 C4, .slice A5 L5 C5] 32)) from hb.alloc hb.size _)
  have HB2 := hide (bthen HBa.out HBa.out.size HX.out); clear hb
  have HAT2 := hide (T.at_below HAT.out HX.out); have HEAT2 := hide (T.at_below HEAT.out HX.out)
  by_cases hc : AF.2 = 0
  rotate_left
  ·
    have q0 : (AF.2 != 0) = true := bneI_t hc
    have HD := hide (D0.out hc); clear hc
    go_wp2
    refine bodyPost_ret (v := .tuple #[.int .i64 0, .int .i64 0, .int .i64 AF.2]) (by simp [results, Tryz.results14, go_sem]) rfl ?_
    exact ⟨by rw [HD.out], HB2.out⟩
  have q0 : (AF.2 != 0) = false := bneI_f hc
  have HD := hide (D1.out hc)
  obtain ⟨hv, hf, hr, -, -, -⟩ := OK.out hc
  go_wp2_with fail
  refine (c_l31Dirty x w.heap.size 0 ed (w.heap.size + 1) 0 _ HSM.out hv hf hr HEAT2.out HAT2.out).mono ?_; rintro e wB ⟨rfl, hb⟩
  have HB3 := hide (bthen HB2.out HB2.out.size hb); clear hb hv hf hr hc
  go_wp2
  refine bodyPost_ret (v := .tuple #[.int .i64 (rangeOf x ed).1, .int .i64 (rangeOf x ed).2, .int .i64 0]) (by simp [results, Tryz.results14, go_sem]) rfl ?_
  exact ⟨by rw [HD.out], HB3.out⟩
end Go.Proofs.YtajoaflfjilhmaaGreat
end
section
namespace Go.Proofs.YtajoaflfjilhmaaGreat
open Go.RowKit
theorem b_szSession (x : GSession) (cs : List Value) (n : Int) (w : World) (hn : 0 ≤ n) (hm : n ≤ 1048576) (hg : x.good) (h : T.rds w x.fs cs) : Calls Tryz.prog 13 #[.agg cs.toArray, .int .i64 n] w fun e w' => ∃ m : Int, e = .returned (.int .i64 m) ∧ -1 ≤ m ∧ m ≤ n ∧ (0 ≤ m → x.small) ∧ Below w.heap.size w w' := by
  obtain ⟨v1, v2, v3, v4, v5, rfl, h1, h2, h3, h4, h5⟩ := GSession.rd_open h
  exact c_szSession x _ _ _ _ _ n w hn hm hg h1 h2 h3 h4 h5
end Go.Proofs.YtajoaflfjilhmaaGreat
end
section
namespace Go.Proofs.YtajoaflfjilhmaaGreat
open Go.RowKit
end Go.Proofs.YtajoaflfjilhmaaGreat
end
