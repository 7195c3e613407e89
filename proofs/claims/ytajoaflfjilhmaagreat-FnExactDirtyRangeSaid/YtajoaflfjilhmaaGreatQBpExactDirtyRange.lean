/- The law DirtyRange. The words of the translation's head, without running through its whole list of roots; and the closed facts of a row out of them. -/
import Derived.Test.YtajoaflfjilhmaaGreatQBoExactDirtyRange
import Derived.Deep.RegionHeld3
import Derived.Test.YtajoaflfjilhmaaGreatRows
import Derived.ProofKit
set_option linter.unusedVariables false
set_option linter.unusedSimpArgs false
section
namespace Go.Proofs.YtajoaflfjilhmaaGreat
open Go.RowKit
set_option maxHeartbeats 8000000 in
set_option maxRecDepth 100000 in
theorem law_DirtyRange (x : GSession) (cs : List Value) (ed : GEdit) (ds : List Value) (w : World) (hx : T.rds w x.fs cs) (gx : x.good) (hy : T.rds w ed.fs ds) (gy : ed.good) : Calls Tryz.prog 4 #[.agg cs.toArray, .agg ds.toArray] w fun e w' => e = .returned (.bool true) ∧ Below w.heap.size w w' := by
  have HX := hide hx
  obtain ⟨v1, v2, v3, v4, v5, rfl, vr1, vr2, vr3, vr4, vr5⟩ := GSession.rd_open hx
  obtain ⟨va1, vl1, vc1, rfl⟩ := T.rd_slice vr1; clear vr1
  obtain ⟨va2, vl2, vc2, rfl⟩ := T.rd_slice vr2; clear vr2
  obtain ⟨va3, vl3, vc3, rfl⟩ := T.rd_slice vr3; clear vr3
  obtain ⟨va4, vl4, vc4, rfl⟩ := T.rd_slice vr4; clear vr4
  obtain ⟨va5, vl5, vc5, rfl⟩ := T.rd_slice vr5; clear vr5
  obtain rfl := GEdit.rd_open hy
  clear hx hy gy
  have H0 := hide (show Below w.heap.size w ((w.alloc (.cells #[.int .i64 x.fLength, (.slice va1 vl1 vc1), (.slice va2 vl2 vc2), (.slice va3 vl3 vc3), (.slice va4 vl4 vc4), (.slice va5 vl5 vc5)] 53)).alloc (.cells #[.int .i64 ed.fKind, .int .i64 ed.fTrack, .int .i64 ed.fClip, .int .i64 ed.fValue, .int .i64 ed.fNew.fSource, .int .i64 ed.fNew.fFrom, .int .i64 ed.fNew.fLength, .int .i64 ed.fNew.fAt, .int .i64 ed.fNew.fGain] 56)) from ((Below.refl _ _).alloc (Nat.le_refl _) _).alloc (by simp) _)
  have KS := hide ((Bk.born w 53 #[.int .i64 x.fLength, (.slice va1 vl1 vc1), (.slice va2 vl2 vc2), (.slice va3 vl3 vc3), (.slice va4 vl4 vc4), (.slice va5 vl5 vc5)]).alloc (.cells #[.int .i64 ed.fKind, .int .i64 ed.fTrack, .int .i64 ed.fClip, .int .i64 ed.fValue, .int .i64 ed.fNew.fSource, .int .i64 ed.fNew.fFrom, .int .i64 ed.fNew.fLength, .int .i64 ed.fNew.fAt, .int .i64 ed.fNew.fGain] 56))
  have KE := hide (Bk.born1' w (.cells #[.int .i64 x.fLength, (.slice va1 vl1 vc1), (.slice va2 vl2 vc2), (.slice va3 vl3 vc3), (.slice va4 vl4 vc4), (.slice va5 vl5 vc5)] 53) 56 #[.int .i64 ed.fKind, .int .i64 ed.fTrack, .int .i64 ed.fClip, .int .i64 ed.fValue, .int .i64 ed.fNew.fSource, .int .i64 ed.fNew.fFrom, .int .i64 ed.fNew.fLength, .int .i64 ed.fNew.fAt, .int .i64 ed.fNew.fGain])
  go_enter Tryz.func4, Tryz.ntmps4
  have kcKS := KS.out.cell; have klKS := KS.out.lt
  have kcKE := KE.out.cell; have klKE := KE.out.lt
  go_wp2_with fail
  refine (b_szSession x _ 1048576 _ (by omega) (by omega) gx (T.rds_below HX.out H0.out)).mono ?_; rintro e w1 ⟨m, rfl, hm0, hm1, hsx, hb⟩
  clear kcKS klKS kcKE klKE
  have H1 := hide (bthen H0.out H0.out.size hb); have hs1 := hb.size
  replace KS := hide (KS.out.below hb KS.out.lt)
  replace KE := hide (KE.out.below hb KE.out.lt)
  clear hb
  have kcKS := KS.out.cell; have klKS := KS.out.lt
  have kcKE := KE.out.cell; have klKE := KE.out.lt
  have hz1 : w.heap.size + 1 < w1.heap.size := KE.out.lt
  by_cases cm : m < 0
  · go_wp2
    go_ret
    exact ⟨rfl, H1.out⟩
  have sx := hsx (by omega)
  obtain ⟨r1, r2, r3, hR⟩ : ∃ r1 r2 r3, dirtyF x ed = (r1, r2, r3) := ⟨_, _, _, rfl⟩
  have hn1 : (r1 != r1) = false := by simp
  have hn2 : (r2 != r2) = false := by simp
  have hn3 : (r3 != r3) = false := by simp
  have SI := hide (fun (W : World) (ds : List Value) (h : T.rds W x.fs ds) => (by have := c_sDirtyRange x ds ed W sx h; rw [hR] at this; exact this : Calls Tryz.prog 14 #[.agg ds.toArray, .agg #[.int .i64 ed.fKind, .int .i64 ed.fTrack, .int .i64 ed.fClip, .int .i64 ed.fValue, .int .i64 ed.fNew.fSource, .int .i64 ed.fNew.fFrom, .int .i64 ed.fNew.fLength, .int .i64 ed.fNew.fAt, .int .i64 ed.fNew.fGain]] W fun e w' => e = .returned (.tuple #[.int .i64 r1, .int .i64 r2, .int .i64 r3]) ∧ Below W.heap.size W w'))
  have II := hide (fun (W : World) (ds : List Value) (h : T.rds W x.fs ds) => (by have := c_iDirtyRange x ds ed W sx h; rw [hR] at this; exact this : Calls Tryz.prog 17 #[.agg ds.toArray, .agg #[.int .i64 ed.fKind, .int .i64 ed.fTrack, .int .i64 ed.fClip, .int .i64 ed.fValue, .int .i64 ed.fNew.fSource, .int .i64 ed.fNew.fFrom, .int .i64 ed.fNew.fLength, .int .i64 ed.fNew.fAt, .int .i64 ed.fNew.fGain]] W fun e w' => e = .returned (.tuple #[.int .i64 r1, .int .i64 r2, .int .i64 r3]) ∧ Below W.heap.size W w'))
  clear hR
  clear kcKS klKS kcKE klKE
  go_wp2_with fail
  go_region_held3 (fun w' => (∀ i, w'.cell? ⟨w.heap.size, i, none⟩ = #[.int .i64 x.fLength, (.slice va1 vl1 vc1), (.slice va2 vl2 vc2), (.slice va3 vl3 vc3), (.slice va4 vl4 vc4), (.slice va5 vl5 vc5)][i]?) ∧ (∀ i, w'.cell? ⟨(w.heap.size + 1), i, none⟩ = #[.int .i64 ed.fKind, .int .i64 ed.fTrack, .int .i64 ed.fClip, .int .i64 ed.fValue, .int .i64 ed.fNew.fSource, .int .i64 ed.fNew.fFrom, .int .i64 ed.fNew.fLength, .int .i64 ed.fNew.fAt, .int .i64 ed.fNew.fGain][i]?)) ((((try simp only [World.cell?_drew])); first | with_reducible exact ⟨KS.out.cell, KE.out.cell⟩ | with_reducible exact ⟨KS5_0.out.cell, KE5_0.out.cell⟩ | with_reducible exact ⟨KS5_1.out.cell, KE5_1.out.cell⟩ | with_reducible exact ⟨KS5_2.out.cell, KE5_2.out.cell⟩ | (trace_state; fail))) (first | (go_at_call 15; refine (b_toSession x _ _ sx (T.rds_below HX.out (by first | with_reducible exact H1.out | with_reducible exact H1.out.drew | with_reducible exact (below_drewN H1.out _) | with_reducible exact (H1.out.alloc (H1.out.size) _) | with_reducible exact (H1.out.alloc (H1.out.size) _).drew | with_reducible exact ((H1.out.drew).alloc (H1.out.size) _) | with_reducible exact (below_drewN (H1.out.alloc (H1.out.size) _) _) | with_reducible exact ((below_drewN H1.out _).alloc (H1.out.size) _)))).mono ?_; rintro e wA5 ⟨ds, rfl, hds, hb⟩; have E5_0 := hide (show Below w1.heap.size w1 wA5 from (by first | with_reducible exact hb | with_reducible exact undrew hb | with_reducible exact undrewN hb | with_reducible exact below_of_alloc hb | with_reducible exact undrew (below_of_alloc hb) | with_reducible exact below_of_alloc (undrew hb) | with_reducible exact undrewN (below_of_alloc hb) | with_reducible exact below_of_alloc (undrewN hb))); have D5_0 := hide (show Below w1.heap.size w1 wA5 from E5_0.out); have KS5_0 := hide (KS.out.below D5_0.out KS.out.lt); have KE5_0 := hide (KE.out.below D5_0.out KE.out.lt); clear hb) | (go_at_call 16; refine (c_toEdit ed _).mono ?_; rintro e wB5 ⟨rfl, hb⟩; have E5_1 := hide (show Below wA5.heap.size wA5 wB5 from (by first | with_reducible exact hb | with_reducible exact undrew hb | with_reducible exact undrewN hb | with_reducible exact below_of_alloc hb | with_reducible exact undrew (below_of_alloc hb) | with_reducible exact below_of_alloc (undrew hb) | with_reducible exact undrewN (below_of_alloc hb) | with_reducible exact below_of_alloc (undrewN hb))); have D5_1 := hide (show Below w1.heap.size w1 wB5 from bthen D5_0.out D5_0.out.size E5_1.out); have KS5_1 := hide (KS.out.below D5_1.out KS.out.lt); have KE5_1 := hide (KE.out.below D5_1.out KE.out.lt); clear hb) | (go_at_call 14; refine (SI.out _ _ (T.rds_below hds (by first | with_reducible exact E5_1.out | with_reducible exact E5_1.out.drew | with_reducible exact (below_drewN E5_1.out _) | with_reducible exact (E5_1.out.alloc (E5_1.out.size) _) | with_reducible exact (E5_1.out.alloc (E5_1.out.size) _).drew | with_reducible exact ((E5_1.out.drew).alloc (E5_1.out.size) _) | with_reducible exact (below_drewN (E5_1.out.alloc (E5_1.out.size) _) _) | with_reducible exact ((below_drewN E5_1.out _).alloc (E5_1.out.size) _)))).mono ?_; rintro e wC5 ⟨rfl, hb⟩; have E5_2 := hide (show Below wB5.heap.size wB5 wC5 from (by first | with_reducible exact hb | with_reducible exact undrew hb | with_reducible exact undrewN hb | with_reducible exact below_of_alloc hb | with_reducible exact undrew (below_of_alloc hb) | with_reducible exact below_of_alloc (undrew hb) | with_reducible exact undrewN (below_of_alloc hb) | with_reducible exact below_of_alloc (undrewN hb))); have D5_2 := hide (show Below w1.heap.size w1 wC5 from bthen D5_1.out D5_1.out.size E5_2.out); have KS5_2 := hide (KS.out.below D5_2.out KS.out.lt); have KE5_2 := hide (KE.out.below D5_2.out KE.out.lt); clear hb))
  have hb := D5_2.out
  generalize wC5 = w2 at *
  have H2 := hide (bthen H1.out H1.out.size hb); have hs2 := hb.size
  replace KS := hide (KS.out.below hb KS.out.lt)
  replace KE := hide (KE.out.below hb KE.out.lt)
  clear hb
  have kcKS := KS.out.cell; have klKS := KS.out.lt
  have kcKE := KE.out.cell; have klKE := KE.out.lt
  go_wp2_with fail
  refine (b_toSession x _ _ sx (T.rds_below HX.out H2.out)).mono ?_; rintro e w3 ⟨ds, rfl, hds, hb⟩
  have DS := hide hds
  clear kcKS klKS kcKE klKE
  have H3 := hide (bthen H2.out H2.out.size hb); have hs3 := hb.size
  replace KS := hide (KS.out.below hb KS.out.lt)
  replace KE := hide (KE.out.below hb KE.out.lt)
  clear hb
  have kcKS := KS.out.cell; have klKS := KS.out.lt
  have kcKE := KE.out.cell; have klKE := KE.out.lt
  obtain ⟨t1, t2, t3, t4, t5, rfl, tr1, tr2, tr3, tr4, tr5⟩ := GSession.rd_open hds
  obtain ⟨ta1, tl1, tc1, rfl⟩ := T.rd_slice tr1; clear tr1
  obtain ⟨ta2, tl2, tc2, rfl⟩ := T.rd_slice tr2; clear tr2
  obtain ⟨ta3, tl3, tc3, rfl⟩ := T.rd_slice tr3; clear tr3
  obtain ⟨ta4, tl4, tc4, rfl⟩ := T.rd_slice tr4; clear tr4
  obtain ⟨ta5, tl5, tc5, rfl⟩ := T.rd_slice tr5; clear tr5
  go_wp2_with fail
  clear kcKS klKS kcKE klKE
  have hb : Below w3.heap.size w3 (w3.alloc (.cells #[.int .i64 x.fLength, (.slice ta1 tl1 tc1), (.slice ta2 tl2 tc2), (.slice ta3 tl3 tc3), (.slice ta4 tl4 tc4), (.slice ta5 tl5 tc5)] 32)) := (Below.refl _ _).alloc (Nat.le_refl _) _
  have KX := hide (Bk.born w3 32 #[.int .i64 x.fLength, (.slice ta1 tl1 tc1), (.slice ta2 tl2 tc2), (.slice ta3 tl3 tc3), (.slice ta4 tl4 tc4), (.slice ta5 tl5 tc5)])
  generalize (w3.alloc (.cells #[.int .i64 x.fLength, (.slice ta1 tl1 tc1), (.slice ta2 tl2 tc2), (.slice ta3 tl3 tc3), (.slice ta4 tl4 tc4), (.slice ta5 tl5 tc5)] 32)) = w4 at *
  have ghKX : w3.heap.size < w4.heap.size := KX.out.lt
  have H4 := hide (bthen H3.out H3.out.size hb); have hs4 := hb.size
  replace KS := hide (KS.out.below hb KS.out.lt)
  replace KE := hide (KE.out.below hb KE.out.lt)
  replace DS := hide (T.rds_below DS.out hb)
  clear hb
  have kcKS := KS.out.cell; have klKS := KS.out.lt
  have kcKE := KE.out.cell; have klKE := KE.out.lt
  have kcKX := KX.out.cell; have klKX := KX.out.lt
  clear kcKS klKS kcKE klKE kcKX klKX
  go_wp2_with fail
  go_region_held3 (fun w' => (∀ i, w'.cell? ⟨w3.heap.size, i, none⟩ = #[.int .i64 x.fLength, (.slice ta1 tl1 tc1), (.slice ta2 tl2 tc2), (.slice ta3 tl3 tc3), (.slice ta4 tl4 tc4), (.slice ta5 tl5 tc5)][i]?) ∧ (∀ i, w'.cell? ⟨(w.heap.size + 1), i, none⟩ = #[.int .i64 ed.fKind, .int .i64 ed.fTrack, .int .i64 ed.fClip, .int .i64 ed.fValue, .int .i64 ed.fNew.fSource, .int .i64 ed.fNew.fFrom, .int .i64 ed.fNew.fLength, .int .i64 ed.fNew.fAt, .int .i64 ed.fNew.fGain][i]?)) ((((try simp only [World.cell?_drew])); first | with_reducible exact ⟨KX.out.cell, KE.out.cell⟩ | with_reducible exact ⟨KX7_0.out.cell, KE7_0.out.cell⟩ | with_reducible exact ⟨KX7_1.out.cell, KE7_1.out.cell⟩ | (trace_state; fail))) (first | (go_at_call 16; refine (c_toEdit ed _).mono ?_; rintro e wA7 ⟨rfl, hb⟩; have E7_0 := hide (show Below w4.heap.size w4 wA7 from (by first | with_reducible exact hb | with_reducible exact undrew hb | with_reducible exact undrewN hb | with_reducible exact below_of_alloc hb | with_reducible exact undrew (below_of_alloc hb) | with_reducible exact below_of_alloc (undrew hb) | with_reducible exact undrewN (below_of_alloc hb) | with_reducible exact below_of_alloc (undrewN hb))); have D7_0 := hide (show Below w4.heap.size w4 wA7 from E7_0.out); have KX7_0 := hide (KX.out.below D7_0.out KX.out.lt); have KE7_0 := hide (KE.out.below D7_0.out KE.out.lt); clear hb) | (go_at_call 17; refine (II.out _ _ (T.rds_below DS.out (by first | with_reducible exact D7_0.out | with_reducible exact D7_0.out.drew | with_reducible exact (below_drewN D7_0.out _) | with_reducible exact (D7_0.out.alloc (D7_0.out.size) _) | with_reducible exact (D7_0.out.alloc (D7_0.out.size) _).drew | with_reducible exact ((D7_0.out.drew).alloc (D7_0.out.size) _) | with_reducible exact (below_drewN (D7_0.out.alloc (D7_0.out.size) _) _) | with_reducible exact ((below_drewN D7_0.out _).alloc (D7_0.out.size) _)))).mono ?_; rintro e wB7 ⟨rfl, hb⟩; have E7_1 := hide (show Below wA7.heap.size wA7 wB7 from (by first | with_reducible exact hb | with_reducible exact undrew hb | with_reducible exact undrewN hb | with_reducible exact below_of_alloc hb | with_reducible exact undrew (below_of_alloc hb) | with_reducible exact below_of_alloc (undrew hb) | with_reducible exact undrewN (below_of_alloc hb) | with_reducible exact below_of_alloc (undrewN hb))); have D7_1 := hide (show Below w4.heap.size w4 wB7 from bthen D7_0.out D7_0.out.size E7_1.out); have KX7_1 := hide (KX.out.below D7_1.out KX.out.lt); have KE7_1 := hide (KE.out.below D7_1.out KE.out.lt); clear hb))
  have hb := D7_1.out
  generalize wB7 = w5 at *
  have H5 := hide (bthen H4.out H4.out.size hb); have hs5 := hb.size
  replace KS := hide (KS.out.below hb KS.out.lt)
  replace KE := hide (KE.out.below hb KE.out.lt)
  replace KX := hide (KX.out.below hb KX.out.lt)
  replace DS := hide (T.rds_below DS.out hb)
  clear hb
  have kcKS := KS.out.cell; have klKS := KS.out.lt
  have kcKE := KE.out.cell; have klKE := KE.out.lt
  have kcKX := KX.out.cell; have klKX := KX.out.lt
  clear kcKS klKS kcKE klKE kcKX klKX
  go_wp2_with fail
  go_region_held3 (fun w' => (∀ i, w'.cell? ⟨w3.heap.size, i, none⟩ = #[.int .i64 x.fLength, (.slice ta1 tl1 tc1), (.slice ta2 tl2 tc2), (.slice ta3 tl3 tc3), (.slice ta4 tl4 tc4), (.slice ta5 tl5 tc5)][i]?) ∧ (∀ i, w'.cell? ⟨w.heap.size, i, none⟩ = #[.int .i64 x.fLength, (.slice va1 vl1 vc1), (.slice va2 vl2 vc2), (.slice va3 vl3 vc3), (.slice va4 vl4 vc4), (.slice va5 vl5 vc5)][i]?)) ((((try simp only [World.cell?_drew])); first | with_reducible exact ⟨KX.out.cell, KS.out.cell⟩ | with_reducible exact ⟨KX10_0.out.cell, KS10_0.out.cell⟩ | with_reducible exact ⟨KX10_1.out.cell, KS10_1.out.cell⟩ | (trace_state; fail))) (first | (go_at_call 15; refine (b_toSession x _ _ sx (T.rds_below HX.out (by first | with_reducible exact H5.out | with_reducible exact H5.out.drew | with_reducible exact (below_drewN H5.out _) | with_reducible exact (H5.out.alloc (H5.out.size) _) | with_reducible exact (H5.out.alloc (H5.out.size) _).drew | with_reducible exact ((H5.out.drew).alloc (H5.out.size) _) | with_reducible exact (below_drewN (H5.out.alloc (H5.out.size) _) _) | with_reducible exact ((below_drewN H5.out _).alloc (H5.out.size) _)))).mono ?_; rintro e wA10 ⟨ds, rfl, hds, hb⟩; have E10_0 := hide (show Below w5.heap.size w5 wA10 from (by first | with_reducible exact hb | with_reducible exact undrew hb | with_reducible exact undrewN hb | with_reducible exact below_of_alloc hb | with_reducible exact undrew (below_of_alloc hb) | with_reducible exact below_of_alloc (undrew hb) | with_reducible exact undrewN (below_of_alloc hb) | with_reducible exact below_of_alloc (undrewN hb))); have D10_0 := hide (show Below w5.heap.size w5 wA10 from E10_0.out); have KX10_0 := hide (KX.out.below D10_0.out KX.out.lt); have KS10_0 := hide (KS.out.below D10_0.out KS.out.lt); clear hb) | (go_at_call 18; refine (b_eqSession x _ _ _ (T.rds_below DS.out (by first | with_reducible exact D10_0.out | with_reducible exact D10_0.out.drew | with_reducible exact (below_drewN D10_0.out _) | with_reducible exact (D10_0.out.alloc (D10_0.out.size) _) | with_reducible exact (D10_0.out.alloc (D10_0.out.size) _).drew | with_reducible exact ((D10_0.out.drew).alloc (D10_0.out.size) _) | with_reducible exact (below_drewN (D10_0.out.alloc (D10_0.out.size) _) _) | with_reducible exact ((below_drewN D10_0.out _).alloc (D10_0.out.size) _))) (T.rds_below hds (by first | with_reducible exact (Below.refl _ _) | with_reducible exact (Below.refl _ _).drew | with_reducible exact (below_drewN (Below.refl _ _) _) | with_reducible exact ((Below.refl _ _).alloc (Nat.le_refl _) _) | with_reducible exact ((Below.refl _ _).alloc (Nat.le_refl _) _).drew | with_reducible exact (((Below.refl _ _).drew).alloc (Nat.le_refl _) _) | with_reducible exact (below_drewN ((Below.refl _ _).alloc (Nat.le_refl _) _) _) | with_reducible exact ((below_drewN (Below.refl _ _) _).alloc (Nat.le_refl _) _)))).mono ?_; rintro e wB10 ⟨rfl, hb⟩; have E10_1 := hide (show Below wA10.heap.size wA10 wB10 from (by first | with_reducible exact hb | with_reducible exact undrew hb | with_reducible exact undrewN hb | with_reducible exact below_of_alloc hb | with_reducible exact undrew (below_of_alloc hb) | with_reducible exact below_of_alloc (undrew hb) | with_reducible exact undrewN (below_of_alloc hb) | with_reducible exact below_of_alloc (undrewN hb))); have D10_1 := hide (show Below w5.heap.size w5 wB10 from bthen D10_0.out D10_0.out.size E10_1.out); have KX10_1 := hide (KX.out.below D10_1.out KX.out.lt); have KS10_1 := hide (KS.out.below D10_1.out KS.out.lt); clear hb))
  have hb := D10_1.out
  generalize wB10 = w6 at *
  have H6 := hide (bthen H5.out H5.out.size hb); have hs6 := hb.size
  replace KS := hide (KS.out.below hb KS.out.lt)
  replace KE := hide (KE.out.below hb KE.out.lt)
  replace KX := hide (KX.out.below hb KX.out.lt)
  replace DS := hide (T.rds_below DS.out hb)
  clear hb
  have kcKS := KS.out.cell; have klKS := KS.out.lt
  have kcKE := KE.out.cell; have klKE := KE.out.lt
  have kcKX := KX.out.cell; have klKX := KX.out.lt
  go_wp2
  go_ret
  exact ⟨rfl, H6.out⟩
end Go.Proofs.YtajoaflfjilhmaaGreat
end
section
namespace Go.Proofs.YtajoaflfjilhmaaGreat
open Go.ChangeShapes
theorem words_pre : ∀ (a r : List Char), (a.all fun c => c != Char.ofNat 32) = true → wordsSigns (a ++ Char.ofNat 32 :: r) = a :: wordsSigns r
  | [], r, _ => rfl
  | c :: a, r, h => by
    simp only [List.all_cons, Bool.and_eq_true, bne_iff_ne, ne_eq] at h
    have ih := words_pre a r (by simpa using h.2)
    rw [List.cons_append]
    conv => lhs; unfold wordsSigns
    split
    · rename_i e; cases e
    · rename_i e
      injection e with e1 _
      exact absurd e1 h.1
    · rename_i e
      injection e with e1 e2
      subst e1 e2
      rw [ih]
set_option maxRecDepth 100000 in
theorem head_list : ∃ l, Tryz.prog.initOrder = String.ofList l ∧ ("harness 8bd308179eb43993fa015d18f0f99d3f64ed28274cc1d7f62b5d64e7f6249b2d cut ".toList).isPrefixOf l = true := by
  refine ⟨_, rfl, ?_⟩
  kernel_rfl
theorem head_words : ∃ X, wordsSigns Tryz.prog.initOrder.toList = "harness".toList :: "8bd308179eb43993fa015d18f0f99d3f64ed28274cc1d7f62b5d64e7f6249b2d".toList :: "cut".toList :: X := by
  obtain ⟨l, hl, hp⟩ := head_list
  obtain ⟨r, hr⟩ := List.isPrefixOf_iff_prefix.1 hp
  have e : "harness 8bd308179eb43993fa015d18f0f99d3f64ed28274cc1d7f62b5d64e7f6249b2d cut ".toList = "harness".toList ++ Char.ofNat 32 :: ("8bd308179eb43993fa015d18f0f99d3f64ed28274cc1d7f62b5d64e7f6249b2d".toList ++ Char.ofNat 32 :: ("cut".toList ++ [Char.ofNat 32])) := by kernel_rfl
  refine ⟨wordsSigns r, ?_⟩
  rw [hl, String.toList_ofList, ← hr, e]
  simp only [List.append_assoc, List.cons_append, List.nil_append]
  rw [words_pre _ _ (by kernel_rfl), words_pre _ _ (by kernel_rfl), words_pre _ _ (by kernel_rfl)]
theorem behind : ∃ X, behindMainWord (wordsSigns Tryz.prog.initOrder.toList) = "cut".toList :: X := by
  obtain ⟨X, hX⟩ := head_words
  refine ⟨X, ?_⟩
  rw [hX]
  have e1 : ("harness".toList == "harness".toList || "harness".toList == "ownmain".toList) = true := by kernel_rfl
  have e2 : isSumSigns "8bd308179eb43993fa015d18f0f99d3f64ed28274cc1d7f62b5d64e7f6249b2d".toList = true := by kernel_rfl
  unfold behindMainWord
  dsimp only
  rw [e1, e2]; rfl
section
variable {P : Program} {X : List (List Char)}
theorem make_of (hX : behindMainWord (wordsSigns P.initOrder.toList) = "cut".toList :: X) : P.make = some .cut := by
  unfold Program.make
  rw [hX]; rfl
theorem lifts_of (X : List (List Char)) : stripLifts liftWords ("cut".toList :: X) = ([], "cut".toList :: X) := rfl
theorem headLifts_of (hX : behindMainWord (wordsSigns P.initOrder.toList) = "cut".toList :: X) : P.headLifts = [] := by
  unfold Program.headLifts
  rw [hX, lifts_of]; rfl
theorem liftsFinal_of (hX : behindMainWord (wordsSigns P.initOrder.toList) = "cut".toList :: X) : P.liftsFinal = false := by
  unfold Program.liftsFinal
  rw [hX, headLifts_of hX]; rfl
theorem mayEnter_of (hX : behindMainWord (wordsSigns P.initOrder.toList) = "cut".toList :: X) (h1 : P.laysLater = false) (h2 : P.bearsReflect = false) (h3 : P.doorFits [] = true) : P.mayEnter = true := by
  unfold Program.mayEnter
  rw [hX]
  dsimp only
  rw [lifts_of, h1, h2, h3]
  rfl
end
theorem make_is : Tryz.prog.make = some .cut := by
  obtain ⟨X, hX⟩ := behind
  exact make_of hX
theorem liftsFinal_is : Tryz.prog.liftsFinal = false := by
  obtain ⟨X, hX⟩ := behind
  exact liftsFinal_of hX
theorem mayEnter_is : Tryz.prog.mayEnter = true := by
  obtain ⟨X, hX⟩ := behind
  exact mayEnter_of hX (by kernel_rfl) (by kernel_rfl) (by kernel_rfl)
theorem laidOut_is : laidOutB Tryz.prog = true := by kernel_rfl
theorem own_is : ownKnob Tryz.prog.godebug = none := by kernel_rfl
end Go.Proofs.YtajoaflfjilhmaaGreat
end
