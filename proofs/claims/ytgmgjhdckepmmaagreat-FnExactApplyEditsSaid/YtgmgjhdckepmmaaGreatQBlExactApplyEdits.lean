/- The law ApplyEdits. The words of the translation's head, without running through its whole list of roots; and the closed facts of a row out of them. -/
import Derived.Test.YtgmgjhdckepmmaaGreatQBhExactApplyEdits
import Derived.Test.YtgmgjhdckepmmaaGreatQBkExactApplyEdits
import Derived.Deep.RegionHeld3
import Derived.Test.YtgmgjhdckepmmaaGreatRows
import Derived.ProofKit
set_option linter.unusedVariables false
set_option linter.unusedSimpArgs false
section
namespace Go.Proofs.YtgmgjhdckepmmaaGreat
open Go.RowKit
theorem none_small0 : noSession.small := by
  refine ⟨⟨by simp [noSession], by simp [noSession]⟩, ⟨by simp [noSession], by simp [noSession]⟩, by simp [noSession], ⟨by simp [noSession], by simp [noSession]⟩, ⟨by simp [noSession], by simp [noSession]⟩⟩
theorem runE_small : ∀ {l : List GEdit} {s : GSession} {i : Nat}, s.small → (runE s l i).1.small
  | [], s, i, h => by simp only [runE]; exact h
  | e :: r, s, i, h => by
    simp only [runE]
    split
    · next hc => exact runE_small (applyF_small h hc).1
    · exact none_small0
theorem applyEs_small {s : GSession} {l : List GEdit} (h : s.small) : (applyEs s l).1.small := by
  unfold applyEs
  split
  · split
    · exact runE_small h
    · exact none_small0
  · exact none_small0
set_option maxHeartbeats 4000000 in
set_option maxRecDepth 100000 in
theorem law_ApplyEdits (x : GSession) (cs : List Value) (v : Value) (l : List GEdit) (w : World) (hx : T.rds w x.fs cs) (gx : x.good) (hl : T.rd w (T.sl 41 9 (l.map GEdit.t)) [v]) : Calls Tryz.prog 7 #[.agg cs.toArray, v] w fun e w' => e = .returned (.bool true) ∧ Below w.heap.size w w' := by
  have HX := hide hx
  obtain ⟨v1, v2, v3, v4, v5, rfl, vr1, vr2, vr3, vr4, vr5⟩ := GSession.rd_open hx
  obtain ⟨va1, vl1, vc1, rfl⟩ := T.rd_slice vr1; clear vr1
  obtain ⟨va2, vl2, vc2, rfl⟩ := T.rd_slice vr2; clear vr2
  obtain ⟨va3, vl3, vc3, rfl⟩ := T.rd_slice vr3; clear vr3
  obtain ⟨va4, vl4, vc4, rfl⟩ := T.rd_slice vr4; clear vr4
  obtain ⟨va5, vl5, vc5, rfl⟩ := T.rd_slice vr5; clear vr5
  clear hx
  have HLV := hide hl; obtain ⟨Av, cv, rfl, hlv, hcv, -⟩ := T.rd_openG hl; clear hl
  have H0 := hide (show Below w.heap.size w (w.alloc (.cells #[.int .i64 x.fLength, (.slice va1 vl1 vc1), (.slice va2 vl2 vc2), (.slice va3 vl3 vc3), (.slice va4 vl4 vc4), (.slice va5 vl5 vc5)] 53)) from (Below.refl _ _).alloc (Nat.le_refl _) _)
  have KS := hide (Bk.born w 53 #[.int .i64 x.fLength, (.slice va1 vl1 vc1), (.slice va2 vl2 vc2), (.slice va3 vl3 vc3), (.slice va4 vl4 vc4), (.slice va5 vl5 vc5)])
  go_enter Tryz.func7, Tryz.ntmps7
  have kcKS := KS.out.cell; have klKS := KS.out.lt
  go_wp2_with fail
  refine (b_szSession x _ 1048576 _ (by omega) (by omega) gx (T.rds_below HX.out H0.out)).mono ?_; rintro e w1 ⟨m, rfl, hm0, hm1, hsx, hb⟩
  clear kcKS klKS
  have H1 := hide (bthen H0.out H0.out.size hb); have hs1 := hb.size
  replace KS := hide (KS.out.below hb KS.out.lt)
  clear hb
  have kcKS := KS.out.cell; have klKS := KS.out.lt
  have hz1 : w.heap.size < w1.heap.size := KS.out.lt
  by_cases cm : m < 0
  · go_wp2
    go_ret
    exact ⟨rfl, H1.out⟩
  have sx := hsx (by omega)
  go_wp2_with fail
  refine (c_szEditS _ l m _ (by omega) (by omega) (T.rd_below HLV.out H1.out)).mono ?_; rintro e w2 ⟨m2, rfl, hm20, hm21, hsl, hb⟩
  clear kcKS klKS
  have H2 := hide (bthen H1.out H1.out.size hb); have hs2 := hb.size
  replace KS := hide (KS.out.below hb KS.out.lt)
  clear hb
  have kcKS := KS.out.cell; have klKS := KS.out.lt
  by_cases cm2 : m2 < 0
  · go_wp2
    go_ret
    exact ⟨rfl, H2.out⟩
  have sl := hsl (by omega)
  have hcx := GSession.cntv_le sx; have hcl := cntL_le2 (c := GEdit.cnt) (B := 9) (N := 1048576) (xs := l) (fun y _ => Nat.le_refl _) sl
  obtain ⟨RS, rn, rc, hR⟩ : ∃ RS rn rc, applyEs x l = (RS, rn, rc) := ⟨_, _, _, rfl⟩
  have hne : (rc != rc) = false := by simp
  have hnn : (rn != rn) = false := by simp
  have srs : RS.small := by have := applyEs_small (l := l) sx; rw [hR] at this; exact this
  have hcr := GSession.cntv_le srs
  have SI := hide (fun (W : World) (ds : List Value) (u : Value) (h : T.rds W x.fs ds) (hu : T.rd W (T.sl 41 9 (l.map GEdit.t)) [u]) => (by have := c_sApplyEdits x ds u l W sx hu h; rw [hR] at this; exact this : Calls Tryz.prog 27 #[.agg ds.toArray, u] W fun e w' => ∃ v1 v2 v3 v4 v5 F, e = .returned (.tuple #[.agg #[.int .i64 RS.fLength, v1, v2, v3, v4, v5], .int .i64 rn, .int .i64 rc]) ∧ Nw W w' RS.fs F [.int .i64 RS.fLength, v1, v2, v3, v4, v5]))
  have II := hide (fun (W : World) (ds : List Value) (u : Value) (h : T.rds W x.fs ds) (hu : T.rd W (T.sl 41 9 (l.map GEdit.t)) [u]) => (by have := c_iApplyEdits x ds u l W sx hu h; rw [hR] at this; exact this : Calls Tryz.prog 11 #[.agg ds.toArray, u] W fun e w' => ∃ v1 v2 v3 v4 v5 F, e = .returned (.tuple #[.agg #[.int .i64 RS.fLength, v1, v2, v3, v4, v5], .int .i64 rn, .int .i64 rc]) ∧ Nw W w' RS.fs F [.int .i64 RS.fLength, v1, v2, v3, v4, v5]))
  have SRS := hide srs; clear hR srs
  go_wp2_with fail
  refine (b_toSession x _ _ sx (T.rds_below HX.out H2.out)).mono ?_; rintro e w3 ⟨ds, rfl, hds, hb⟩
  have Dd := hide hds; clear hds
  clear kcKS klKS
  have H3 := hide (bthen H2.out H2.out.size hb); have hs3 := hb.size
  replace KS := hide (KS.out.below hb KS.out.lt)
  clear hb
  have kcKS := KS.out.cell; have klKS := KS.out.lt
  go_wp2_with fail
  refine (c_toEditS _ l _ sl (T.rd_below HLV.out H3.out)).mono ?_; rintro e w4 ⟨u, Fa, rfl, hN⟩
  have Oa := hide hN.ow; have Na := hide hN.nodup; have La := hide hN.lo; have Ia := hide hN.lt; have hb := hN.below; obtain ⟨aa, la, ca, rfl⟩ := T.ow_slice hN.ow; clear hN
  clear kcKS klKS
  have H4 := hide (bthen H3.out H3.out.size hb); have hs4 := hb.size
  replace KS := hide (KS.out.below hb KS.out.lt)
  replace Dd := hide (T.rds_below Dd.out hb)
  clear hb
  have kcKS := KS.out.cell; have klKS := KS.out.lt
  go_wp2_with fail
  refine (SI.out _ _ _ Dd.out (T.ow_rd _ _ _ Oa.out)).mono ?_; rintro e w5 ⟨v1, v2, v3, v4, v5, F6, rfl, hN⟩
  have hb := hN.below; obtain ⟨⟨A1r6, L1r6, C1r6, rfl⟩, ⟨A2r6, L2r6, C2r6, rfl⟩, ⟨A3r6, L3r6, C3r6, rfl⟩, ⟨A4r6, L4r6, C4r6, rfl⟩, ⟨A5r6, L5r6, C5r6, rfl⟩⟩ := GSession.sl5 (T.ows_rds _ _ _ hN.ows)
  have O6 := hide hN.ows; have N6 := hide hN.nodup; have L6 := hide hN.lo; have I6 := hide hN.lt; clear hN
  clear kcKS klKS
  have H5 := hide (bthen H4.out H4.out.size hb); have hs5 := hb.size
  replace KS := hide (KS.out.below hb KS.out.lt)
  replace Dd := hide (T.rds_below Dd.out hb)
  replace Oa := hide (T.ow_all Oa.out hb)
  clear hb
  have kcKS := KS.out.cell; have klKS := KS.out.lt
  clear Dd Oa
  go_wp2_with fail
  clear kcKS klKS
  have hb : Below w5.heap.size w5 (w5.alloc (.cells #[.int .i64 RS.fLength, .slice A1r6 L1r6 C1r6, .slice A2r6 L2r6 C2r6, .slice A3r6 L3r6 C3r6, .slice A4r6 L4r6 C4r6, .slice A5r6 L5r6 C5r6] 32)) := (Below.refl _ _).alloc (Nat.le_refl _) _
  have KG := hide (Bk.born w5 32 #[.int .i64 RS.fLength, .slice A1r6 L1r6 C1r6, .slice A2r6 L2r6 C2r6, .slice A3r6 L3r6 C3r6, .slice A4r6 L4r6 C4r6, .slice A5r6 L5r6 C5r6])
  generalize (w5.alloc (.cells #[.int .i64 RS.fLength, .slice A1r6 L1r6 C1r6, .slice A2r6 L2r6 C2r6, .slice A3r6 L3r6 C3r6, .slice A4r6 L4r6 C4r6, .slice A5r6 L5r6 C5r6] 32)) = w6 at *
  have ghKG : w5.heap.size < w6.heap.size := KG.out.lt
  have H6 := hide (bthen H5.out H5.out.size hb); have hs6 := hb.size
  replace KS := hide (KS.out.below hb KS.out.lt)
  replace O6 := hide (T.ows_all O6.out hb)
  clear hb
  have kcKS := KS.out.cell; have klKS := KS.out.lt
  have kcKG := KG.out.cell; have klKG := KG.out.lt
  refine (bo_toSession x _ _ sx (T.rds_below HX.out H6.out)).mono ?_; rintro e w7 ⟨ds, FX, rfl, hN⟩
  have OX := hide hN.ows; have NX := hide hN.nodup; have LX := hide hN.lo; have IX := hide hN.lt; have hb := hN.below; have hds := T.ows_rds _ _ _ hN.ows; clear hN
  clear kcKS klKS kcKG klKG
  have H7 := hide (bthen H6.out H6.out.size hb); have hs7 := hb.size
  replace KS := hide (KS.out.below hb KS.out.lt)
  replace KG := hide (KG.out.below hb KG.out.lt)
  replace O6 := hide (T.ows_all O6.out hb)
  clear hb
  have kcKS := KS.out.cell; have klKS := KS.out.lt
  have kcKG := KG.out.cell; have klKG := KG.out.lt
  obtain ⟨t1, t2, t3, t4, t5, rfl, tr1, tr2, tr3, tr4, tr5⟩ := GSession.rd_open hds
  obtain ⟨ta1, tl1, tc1, rfl⟩ := T.rd_slice tr1; clear tr1
  obtain ⟨ta2, tl2, tc2, rfl⟩ := T.rd_slice tr2; clear tr2
  obtain ⟨ta3, tl3, tc3, rfl⟩ := T.rd_slice tr3; clear tr3
  obtain ⟨ta4, tl4, tc4, rfl⟩ := T.rd_slice tr4; clear tr4
  obtain ⟨ta5, tl5, tc5, rfl⟩ := T.rd_slice tr5; clear tr5
  go_wp2_with fail
  clear kcKS klKS kcKG klKG
  have hb : Below w7.heap.size w7 (w7.alloc (.cells #[.int .i64 x.fLength, (.slice ta1 tl1 tc1), (.slice ta2 tl2 tc2), (.slice ta3 tl3 tc3), (.slice ta4 tl4 tc4), (.slice ta5 tl5 tc5)] 32)) := (Below.refl _ _).alloc (Nat.le_refl _) _
  have KX := hide (Bk.born w7 32 #[.int .i64 x.fLength, (.slice ta1 tl1 tc1), (.slice ta2 tl2 tc2), (.slice ta3 tl3 tc3), (.slice ta4 tl4 tc4), (.slice ta5 tl5 tc5)])
  generalize (w7.alloc (.cells #[.int .i64 x.fLength, (.slice ta1 tl1 tc1), (.slice ta2 tl2 tc2), (.slice ta3 tl3 tc3), (.slice ta4 tl4 tc4), (.slice ta5 tl5 tc5)] 32)) = w8 at *
  have ghKX : w7.heap.size < w8.heap.size := KX.out.lt
  have H8 := hide (bthen H7.out H7.out.size hb); have hs8 := hb.size
  replace KS := hide (KS.out.below hb KS.out.lt)
  replace KG := hide (KG.out.below hb KG.out.lt)
  replace O6 := hide (T.ows_all O6.out hb)
  replace OX := hide (T.ows_all OX.out hb)
  clear hb
  have kcKS := KS.out.cell; have klKS := KS.out.lt
  have kcKG := KG.out.cell; have klKG := KG.out.lt
  have kcKX := KX.out.cell; have klKX := KX.out.lt
  refine (c_toEditS _ l _ sl (T.rd_below HLV.out H8.out)).mono ?_; rintro e w9 ⟨u, FY, rfl, hN⟩
  have OY := hide hN.ow; have NY := hide hN.nodup; have LY := hide hN.lo; have IY := hide hN.lt; have hb := hN.below; obtain ⟨aY, lY, cY, rfl⟩ := T.ow_slice hN.ow; clear hN
  clear kcKS klKS kcKG klKG kcKX klKX
  have H9 := hide (bthen H8.out H8.out.size hb); have hs9 := hb.size
  replace KS := hide (KS.out.below hb KS.out.lt)
  replace KG := hide (KG.out.below hb KG.out.lt)
  replace KX := hide (KX.out.below hb KX.out.lt)
  replace O6 := hide (T.ows_all O6.out hb)
  replace OX := hide (T.ows_all OX.out hb)
  clear hb
  have kcKS := KS.out.cell; have klKS := KS.out.lt
  have kcKG := KG.out.cell; have klKG := KG.out.lt
  have kcKX := KX.out.cell; have klKX := KX.out.lt
  go_wp2_with fail
  refine (II.out _ _ _ (T.ows_rds _ _ _ OX.out) (T.ow_rd _ _ _ OY.out)).mono ?_; rintro e w10 ⟨v1, v2, v3, v4, v5, F11, rfl, hN⟩
  have hb := hN.below; obtain ⟨⟨A1r11, L1r11, C1r11, rfl⟩, ⟨A2r11, L2r11, C2r11, rfl⟩, ⟨A3r11, L3r11, C3r11, rfl⟩, ⟨A4r11, L4r11, C4r11, rfl⟩, ⟨A5r11, L5r11, C5r11, rfl⟩⟩ := GSession.sl5 (T.ows_rds _ _ _ hN.ows)
  have O11 := hide hN.ows; have N11 := hide hN.nodup; have L11 := hide hN.lo; have I11 := hide hN.lt; clear hN
  clear kcKS klKS kcKG klKG kcKX klKX
  have H10 := hide (bthen H9.out H9.out.size hb); have hs10 := hb.size
  replace KS := hide (KS.out.below hb KS.out.lt)
  replace KG := hide (KG.out.below hb KG.out.lt)
  replace KX := hide (KX.out.below hb KX.out.lt)
  replace O6 := hide (T.ows_all O6.out hb)
  replace OX := hide (T.ows_all OX.out hb)
  replace OY := hide (T.ow_all OY.out hb)
  clear hb
  have kcKS := KS.out.cell; have klKS := KS.out.lt
  have kcKG := KG.out.cell; have klKG := KG.out.lt
  have kcKX := KX.out.cell; have klKX := KX.out.lt
  go_wp2_with fail
  clear kcKS klKS kcKG klKG kcKX klKX
  have hb : Below w10.heap.size w10 (w10.alloc (.cells #[.int .i64 RS.fLength, .slice A1r11 L1r11 C1r11, .slice A2r11 L2r11 C2r11, .slice A3r11 L3r11 C3r11, .slice A4r11 L4r11 C4r11, .slice A5r11 L5r11 C5r11] 32)) := (Below.refl _ _).alloc (Nat.le_refl _) _
  have KH := hide (Bk.born w10 32 #[.int .i64 RS.fLength, .slice A1r11 L1r11 C1r11, .slice A2r11 L2r11 C2r11, .slice A3r11 L3r11 C3r11, .slice A4r11 L4r11 C4r11, .slice A5r11 L5r11 C5r11])
  generalize (w10.alloc (.cells #[.int .i64 RS.fLength, .slice A1r11 L1r11 C1r11, .slice A2r11 L2r11 C2r11, .slice A3r11 L3r11 C3r11, .slice A4r11 L4r11 C4r11, .slice A5r11 L5r11 C5r11] 32)) = w11 at *
  have ghKH : w10.heap.size < w11.heap.size := KH.out.lt
  have H11 := hide (bthen H10.out H10.out.size hb); have hs11 := hb.size
  replace KS := hide (KS.out.below hb KS.out.lt)
  replace KG := hide (KG.out.below hb KG.out.lt)
  replace KX := hide (KX.out.below hb KX.out.lt)
  replace O6 := hide (T.ows_all O6.out hb)
  replace OX := hide (T.ows_all OX.out hb)
  replace O11 := hide (T.ows_all O11.out hb)
  replace OY := hide (T.ow_all OY.out hb)
  clear hb
  have kcKS := KS.out.cell; have klKS := KS.out.lt
  have kcKG := KG.out.cell; have klKG := KG.out.lt
  have kcKX := KX.out.cell; have klKX := KX.out.lt
  have kcKH := KH.out.cell; have klKH := KH.out.lt
  refine (b_eqSession RS _ _ _ (T.ows_rds _ _ _ O11.out) (T.ows_rds _ _ _ O6.out)).mono ?_; rintro e w12 ⟨rfl, hb⟩
  clear kcKS klKS kcKG klKG kcKX klKX kcKH klKH
  have H12 := hide (bthen H11.out H11.out.size hb); have hs12 := hb.size
  replace KS := hide (KS.out.below hb KS.out.lt)
  replace KG := hide (KG.out.below hb KG.out.lt)
  replace KX := hide (KX.out.below hb KX.out.lt)
  replace KH := hide (KH.out.below hb KH.out.lt)
  replace O6 := hide (T.ows_all O6.out hb)
  replace OX := hide (T.ows_all OX.out hb)
  replace O11 := hide (T.ows_all O11.out hb)
  replace OY := hide (T.ow_all OY.out hb)
  clear hb
  have kcKS := KS.out.cell; have klKS := KS.out.lt
  have kcKG := KG.out.cell; have klKG := KG.out.lt
  have kcKX := KX.out.cell; have klKX := KX.out.lt
  have kcKH := KH.out.cell; have klKH := KH.out.lt
  clear kcKS klKS kcKG klKG kcKX klKX kcKH klKH
  go_wp2_with fail
  go_region_held3 (fun w' => (∀ i, w'.cell? ⟨w7.heap.size, i, none⟩ = #[.int .i64 x.fLength, (.slice ta1 tl1 tc1), (.slice ta2 tl2 tc2), (.slice ta3 tl3 tc3), (.slice ta4 tl4 tc4), (.slice ta5 tl5 tc5)][i]?) ∧ (∀ i, w'.cell? ⟨w.heap.size, i, none⟩ = #[.int .i64 x.fLength, (.slice va1 vl1 vc1), (.slice va2 vl2 vc2), (.slice va3 vl3 vc3), (.slice va4 vl4 vc4), (.slice va5 vl5 vc5)][i]?)) ((((try simp only [World.cell?_drew])); first | with_reducible exact ⟨KX.out.cell, KS.out.cell⟩ | with_reducible exact ⟨KX14_0.out.cell, KS14_0.out.cell⟩ | with_reducible exact ⟨KX14_1.out.cell, KS14_1.out.cell⟩ | (trace_state; fail))) (first | (go_at_call 17; refine (b_toSession x _ _ sx (T.rds_below HX.out (by first | with_reducible exact H12.out | with_reducible exact H12.out.drew | with_reducible exact (below_drewN H12.out _) | with_reducible exact (H12.out.alloc (H12.out.size) _) | with_reducible exact (H12.out.alloc (H12.out.size) _).drew | with_reducible exact ((H12.out.drew).alloc (H12.out.size) _) | with_reducible exact (below_drewN (H12.out.alloc (H12.out.size) _) _) | with_reducible exact ((below_drewN H12.out _).alloc (H12.out.size) _)))).mono ?_; rintro e wA14 ⟨ds, rfl, hds, hb⟩; have E14_0 := hide (show Below w12.heap.size w12 wA14 from (by first | with_reducible exact hb | with_reducible exact undrew hb | with_reducible exact undrewN hb | with_reducible exact below_of_alloc hb | with_reducible exact undrew (below_of_alloc hb) | with_reducible exact below_of_alloc (undrew hb) | with_reducible exact undrewN (below_of_alloc hb) | with_reducible exact below_of_alloc (undrewN hb))); have D14_0 := hide (show Below w12.heap.size w12 wA14 from E14_0.out); have KX14_0 := hide (KX.out.below D14_0.out KX.out.lt); have KS14_0 := hide (KS.out.below D14_0.out KS.out.lt); clear hb) | (go_at_call 20; refine (b_eqSession x _ _ _ (T.rds_below (T.ows_rds _ _ _ OX.out) (by first | with_reducible exact D14_0.out | with_reducible exact D14_0.out.drew | with_reducible exact (below_drewN D14_0.out _) | with_reducible exact (D14_0.out.alloc (D14_0.out.size) _) | with_reducible exact (D14_0.out.alloc (D14_0.out.size) _).drew | with_reducible exact ((D14_0.out.drew).alloc (D14_0.out.size) _) | with_reducible exact (below_drewN (D14_0.out.alloc (D14_0.out.size) _) _) | with_reducible exact ((below_drewN D14_0.out _).alloc (D14_0.out.size) _))) (T.rds_below hds (by first | with_reducible exact (Below.refl _ _) | with_reducible exact (Below.refl _ _).drew | with_reducible exact (below_drewN (Below.refl _ _) _) | with_reducible exact ((Below.refl _ _).alloc (Nat.le_refl _) _) | with_reducible exact ((Below.refl _ _).alloc (Nat.le_refl _) _).drew | with_reducible exact (((Below.refl _ _).drew).alloc (Nat.le_refl _) _) | with_reducible exact (below_drewN ((Below.refl _ _).alloc (Nat.le_refl _) _) _) | with_reducible exact ((below_drewN (Below.refl _ _) _).alloc (Nat.le_refl _) _)))).mono ?_; rintro e wB14 ⟨rfl, hb⟩; have E14_1 := hide (show Below wA14.heap.size wA14 wB14 from (by first | with_reducible exact hb | with_reducible exact undrew hb | with_reducible exact undrewN hb | with_reducible exact below_of_alloc hb | with_reducible exact undrew (below_of_alloc hb) | with_reducible exact below_of_alloc (undrew hb) | with_reducible exact undrewN (below_of_alloc hb) | with_reducible exact below_of_alloc (undrewN hb))); have D14_1 := hide (show Below w12.heap.size w12 wB14 from bthen D14_0.out D14_0.out.size E14_1.out); have KX14_1 := hide (KX.out.below D14_1.out KX.out.lt); have KS14_1 := hide (KS.out.below D14_1.out KS.out.lt); clear hb))
  have hb := D14_1.out
  generalize wB14 = w13 at *
  have H13 := hide (bthen H12.out H12.out.size hb); have hs13 := hb.size
  replace KS := hide (KS.out.below hb KS.out.lt)
  replace KG := hide (KG.out.below hb KG.out.lt)
  replace KX := hide (KX.out.below hb KX.out.lt)
  replace KH := hide (KH.out.below hb KH.out.lt)
  replace O6 := hide (T.ows_all O6.out hb)
  replace OX := hide (T.ows_all OX.out hb)
  replace O11 := hide (T.ows_all O11.out hb)
  replace OY := hide (T.ow_all OY.out hb)
  clear hb
  have kcKS := KS.out.cell; have klKS := KS.out.lt
  have kcKG := KG.out.cell; have klKG := KG.out.lt
  have kcKX := KX.out.cell; have klKX := KX.out.lt
  have kcKH := KH.out.cell; have klKH := KH.out.lt
  go_wp2_with fail
  refine (c_toEditS _ l _ sl (T.rd_below HLV.out H13.out)).mono ?_; rintro e w14 ⟨u, Fb, rfl, hN⟩
  have Ob := hide hN.ow; have Nb := hide hN.nodup; have Lb := hide hN.lo; have Ib := hide hN.lt; have hb := hN.below; obtain ⟨ab, lb, cb, rfl⟩ := T.ow_slice hN.ow; clear hN
  clear kcKS klKS kcKG klKG kcKX klKX kcKH klKH
  have H14 := hide (bthen H13.out H13.out.size hb); have hs14 := hb.size
  replace KS := hide (KS.out.below hb KS.out.lt)
  replace KG := hide (KG.out.below hb KG.out.lt)
  replace KX := hide (KX.out.below hb KX.out.lt)
  replace KH := hide (KH.out.below hb KH.out.lt)
  replace O6 := hide (T.ows_all O6.out hb)
  replace OX := hide (T.ows_all OX.out hb)
  replace O11 := hide (T.ows_all O11.out hb)
  replace OY := hide (T.ow_all OY.out hb)
  clear hb
  have kcKS := KS.out.cell; have klKS := KS.out.lt
  have kcKG := KG.out.cell; have klKG := KG.out.lt
  have kcKX := KX.out.cell; have klKX := KX.out.lt
  have kcKH := KH.out.cell; have klKH := KH.out.lt
  go_wp2_with fail
  refine (c_eqEditS _ _ l _ (T.ow_rd _ _ _ OY.out) (T.ow_rd _ _ _ Ob.out)).mono ?_; rintro e w15 ⟨rfl, hb⟩
  clear kcKS klKS kcKG klKG kcKX klKX kcKH klKH
  have H15 := hide (bthen H14.out H14.out.size hb); have hs15 := hb.size
  replace KS := hide (KS.out.below hb KS.out.lt)
  replace KG := hide (KG.out.below hb KG.out.lt)
  replace KX := hide (KX.out.below hb KX.out.lt)
  replace KH := hide (KH.out.below hb KH.out.lt)
  replace O6 := hide (T.ows_all O6.out hb)
  replace OX := hide (T.ows_all OX.out hb)
  replace O11 := hide (T.ows_all O11.out hb)
  replace OY := hide (T.ow_all OY.out hb)
  replace Ob := hide (T.ow_all Ob.out hb)
  clear hb
  have kcKS := KS.out.cell; have klKS := KS.out.lt
  have kcKG := KG.out.cell; have klKG := KG.out.lt
  have kcKX := KX.out.cell; have klKX := KX.out.lt
  have kcKH := KH.out.cell; have klKH := KH.out.lt
  clear Ob
  go_wp2_with fail
  refine (bo_markSession x _ FX 1 _ (by omega) (by omega) OX.out NX.out).mono ?_; rintro e w16 ⟨rfl, hO, hT⟩
  obtain ⟨mx, hmx, pmx⟩ : ∃ mm : Int, ((1 + x.cntv : Nat) : Int) = mm ∧ 0 < mm := ⟨_, rfl, by omega⟩
  have nmx : ¬ mx < 0 := by omega
  rw [hmx]; have Emx := hide hmx; clear hmx
  clear kcKS klKS kcKG klKG kcKX klKX kcKH klKH
  have H16 := hide (hT.below H15.out (fun b hb => by have h1 := LX.out b hb; omega) H15.out.size); have hs16 := hT.size
  replace KS := hide (KS.out.trn hT (fun hm => by have h1 := LX.out _ hm; have h2 := IX.out _ hm; omega))
  replace KG := hide (KG.out.trn hT (fun hm => by have h1 := LX.out _ hm; have h2 := IX.out _ hm; omega))
  replace KX := hide (KX.out.trn hT (fun hm => by have h1 := LX.out _ hm; have h2 := IX.out _ hm; omega))
  replace KH := hide (KH.out.trn hT (fun hm => by have h1 := LX.out _ hm; have h2 := IX.out _ hm; omega))
  replace O6 := hide (T.ows_trn O6.out hT (fun b hb hm => by have h1 := LX.out _ hm; have h2 := IX.out _ hm; have h3 := L6.out b hb; have h4 := I6.out b hb; omega))
  replace O11 := hide (T.ows_trn O11.out hT (fun b hb hm => by have h1 := LX.out _ hm; have h2 := IX.out _ hm; have h3 := L11.out b hb; have h4 := I11.out b hb; omega))
  replace OY := hide (T.ow_trn OY.out hT (fun b hb hm => by have h1 := LX.out _ hm; have h2 := IX.out _ hm; have h3 := LY.out b hb; have h4 := IY.out b hb; omega))
  clear hT
  have kcKS := KS.out.cell; have klKS := KS.out.lt
  have kcKG := KG.out.cell; have klKG := KG.out.lt
  have kcKX := KX.out.cell; have klKX := KX.out.lt
  have kcKH := KH.out.cell; have klKH := KH.out.lt
  clear OX; have OX := hide hO; clear hO
  go_wp2_with fail
  rw [← Emx.out]
  refine (c_markEditS _ l FY (1 + x.cntv) _ (by omega) (by omega) OY.out NY.out).mono ?_; rintro e w17 ⟨rfl, hO, hT⟩
  obtain ⟨my, hmy, pmy⟩ : ∃ mm : Int, ((1 + x.cntv + cntL GEdit.cnt l : Nat) : Int) = mm ∧ 0 < mm := ⟨_, rfl, by omega⟩
  have nmy : ¬ my < 0 := by omega
  rw [hmy]; have Emy := hide hmy; clear hmy
  clear kcKS klKS kcKG klKG kcKX klKX kcKH klKH
  have H17 := hide (hT.below H16.out (fun b hb => by have h1 := LY.out b hb; omega) H16.out.size); have hs17 := hT.size
  replace KS := hide (KS.out.trn hT (fun hm => by have h1 := LY.out _ hm; have h2 := IY.out _ hm; omega))
  replace KG := hide (KG.out.trn hT (fun hm => by have h1 := LY.out _ hm; have h2 := IY.out _ hm; omega))
  replace KX := hide (KX.out.trn hT (fun hm => by have h1 := LY.out _ hm; have h2 := IY.out _ hm; omega))
  replace KH := hide (KH.out.trn hT (fun hm => by have h1 := LY.out _ hm; have h2 := IY.out _ hm; omega))
  replace O6 := hide (T.ows_trn O6.out hT (fun b hb hm => by have h1 := LY.out _ hm; have h2 := IY.out _ hm; have h3 := L6.out b hb; have h4 := I6.out b hb; omega))
  replace O11 := hide (T.ows_trn O11.out hT (fun b hb hm => by have h1 := LY.out _ hm; have h2 := IY.out _ hm; have h3 := L11.out b hb; have h4 := I11.out b hb; omega))
  replace OX := hide (T.ows_trn OX.out hT (fun b hb hm => by have h1 := LY.out _ hm; have h2 := IY.out _ hm; have h3 := LX.out b hb; have h4 := IX.out b hb; omega))
  clear hT
  have kcKS := KS.out.cell; have klKS := KS.out.lt
  have kcKG := KG.out.cell; have klKG := KG.out.lt
  have kcKX := KX.out.cell; have klKX := KX.out.lt
  have kcKH := KH.out.cell; have klKH := KH.out.lt
  clear OY hO
  go_wp2_with fail
  refine (b_eqSession RS _ _ _ (T.ows_rds _ _ _ O11.out) (T.ows_rds _ _ _ O6.out)).mono ?_; rintro e w18 ⟨rfl, hb⟩
  clear kcKS klKS kcKG klKG kcKX klKX kcKH klKH
  have H18 := hide (bthen H17.out H17.out.size hb); have hs18 := hb.size
  replace KS := hide (KS.out.below hb KS.out.lt)
  replace KG := hide (KG.out.below hb KG.out.lt)
  replace KX := hide (KX.out.below hb KX.out.lt)
  replace KH := hide (KH.out.below hb KH.out.lt)
  replace O6 := hide (T.ows_all O6.out hb)
  replace O11 := hide (T.ows_all O11.out hb)
  replace OX := hide (T.ows_all OX.out hb)
  clear hb
  have kcKS := KS.out.cell; have klKS := KS.out.lt
  have kcKG := KG.out.cell; have klKG := KG.out.lt
  have kcKX := KX.out.cell; have klKX := KX.out.lt
  have kcKH := KH.out.cell; have klKH := KH.out.lt
  go_wp2_with fail
  refine (bo_markSession RS _ F11 1 _ (by omega) (by omega) O11.out N11.out).mono ?_; rintro e w19 ⟨rfl, hO, hT⟩
  obtain ⟨mr, hmr, pmr⟩ : ∃ mm : Int, ((1 + RS.cntv : Nat) : Int) = mm ∧ 0 < mm := ⟨_, rfl, by omega⟩
  have nmr : ¬ mr < 0 := by omega
  rw [hmr]; have Emr := hide hmr; clear hmr
  clear kcKS klKS kcKG klKG kcKX klKX kcKH klKH
  have H19 := hide (hT.below H18.out (fun b hb => by have h1 := L11.out b hb; omega) H18.out.size); have hs19 := hT.size
  replace KS := hide (KS.out.trn hT (fun hm => by have h1 := L11.out _ hm; have h2 := I11.out _ hm; omega))
  replace KG := hide (KG.out.trn hT (fun hm => by have h1 := L11.out _ hm; have h2 := I11.out _ hm; omega))
  replace KX := hide (KX.out.trn hT (fun hm => by have h1 := L11.out _ hm; have h2 := I11.out _ hm; omega))
  replace KH := hide (KH.out.trn hT (fun hm => by have h1 := L11.out _ hm; have h2 := I11.out _ hm; omega))
  replace O6 := hide (T.ows_trn O6.out hT (fun b hb hm => by have h1 := L11.out _ hm; have h2 := I11.out _ hm; have h3 := L6.out b hb; have h4 := I6.out b hb; omega))
  replace OX := hide (T.ows_trn OX.out hT (fun b hb hm => by have h1 := L11.out _ hm; have h2 := I11.out _ hm; have h3 := LX.out b hb; have h4 := IX.out b hb; omega))
  clear hT
  have kcKS := KS.out.cell; have klKS := KS.out.lt
  have kcKG := KG.out.cell; have klKG := KG.out.lt
  have kcKX := KX.out.cell; have klKX := KX.out.lt
  have kcKH := KH.out.cell; have klKH := KH.out.lt
  clear O11; have O11 := hide hO; clear hO
  have hqe : (mr != mr) = false := by simp
  go_wp2_with fail
  refine (bo_heldSession RS _ 1 _ (by omega) (by omega) (T.ows_rds _ _ _ O11.out)).mono ?_; rintro e w20 ⟨rfl, hb⟩; rw [Emr.out]
  clear kcKS klKS kcKG klKG kcKX klKX kcKH klKH
  have H20 := hide (bthen H19.out H19.out.size hb); have hs20 := hb.size
  replace KS := hide (KS.out.below hb KS.out.lt)
  replace KG := hide (KG.out.below hb KG.out.lt)
  replace KX := hide (KX.out.below hb KX.out.lt)
  replace KH := hide (KH.out.below hb KH.out.lt)
  replace O6 := hide (T.ows_all O6.out hb)
  replace OX := hide (T.ows_all OX.out hb)
  replace O11 := hide (T.ows_all O11.out hb)
  clear hb
  have kcKS := KS.out.cell; have klKS := KS.out.lt
  have kcKG := KG.out.cell; have klKG := KG.out.lt
  have kcKX := KX.out.cell; have klKX := KX.out.lt
  have kcKH := KH.out.cell; have klKH := KH.out.lt
  go_wp2_with fail
  refine (b_toSession x _ _ sx (T.rds_below HX.out H20.out)).mono ?_; rintro e w21 ⟨ds, rfl, hds, hb⟩
  have De := hide hds; clear hds
  clear kcKS klKS kcKG klKG kcKX klKX kcKH klKH
  have H21 := hide (bthen H20.out H20.out.size hb); have hs21 := hb.size
  replace KS := hide (KS.out.below hb KS.out.lt)
  replace KG := hide (KG.out.below hb KG.out.lt)
  replace KX := hide (KX.out.below hb KX.out.lt)
  replace KH := hide (KH.out.below hb KH.out.lt)
  replace O6 := hide (T.ows_all O6.out hb)
  replace OX := hide (T.ows_all OX.out hb)
  replace O11 := hide (T.ows_all O11.out hb)
  clear hb
  have kcKS := KS.out.cell; have klKS := KS.out.lt
  have kcKG := KG.out.cell; have klKG := KG.out.lt
  have kcKX := KX.out.cell; have klKX := KX.out.lt
  have kcKH := KH.out.cell; have klKH := KH.out.lt
  go_wp2_with fail
  refine (c_toEditS _ l _ sl (T.rd_below HLV.out H21.out)).mono ?_; rintro e w22 ⟨u, Fd, rfl, hN⟩
  have Od := hide hN.ow; have Nd := hide hN.nodup; have Ld := hide hN.lo; have Id := hide hN.lt; have hb := hN.below; obtain ⟨ad, ld, cd, rfl⟩ := T.ow_slice hN.ow; clear hN
  clear kcKS klKS kcKG klKG kcKX klKX kcKH klKH
  have H22 := hide (bthen H21.out H21.out.size hb); have hs22 := hb.size
  replace KS := hide (KS.out.below hb KS.out.lt)
  replace KG := hide (KG.out.below hb KG.out.lt)
  replace KX := hide (KX.out.below hb KX.out.lt)
  replace KH := hide (KH.out.below hb KH.out.lt)
  replace O6 := hide (T.ows_all O6.out hb)
  replace OX := hide (T.ows_all OX.out hb)
  replace O11 := hide (T.ows_all O11.out hb)
  replace De := hide (T.rds_below De.out hb)
  clear hb
  have kcKS := KS.out.cell; have klKS := KS.out.lt
  have kcKG := KG.out.cell; have klKG := KG.out.lt
  have kcKX := KX.out.cell; have klKX := KX.out.lt
  have kcKH := KH.out.cell; have klKH := KH.out.lt
  go_wp2_with fail
  refine (II.out _ _ _ De.out (T.ow_rd _ _ _ Od.out)).mono ?_; rintro e w23 ⟨v1, v2, v3, v4, v5, F17, rfl, hN⟩
  have hb := hN.below; obtain ⟨⟨A1r17, L1r17, C1r17, rfl⟩, ⟨A2r17, L2r17, C2r17, rfl⟩, ⟨A3r17, L3r17, C3r17, rfl⟩, ⟨A4r17, L4r17, C4r17, rfl⟩, ⟨A5r17, L5r17, C5r17, rfl⟩⟩ := GSession.sl5 (T.ows_rds _ _ _ hN.ows)
  have O17 := hide hN.ows; have N17 := hide hN.nodup; have L17 := hide hN.lo; have I17 := hide hN.lt; clear hN
  clear kcKS klKS kcKG klKG kcKX klKX kcKH klKH
  have H23 := hide (bthen H22.out H22.out.size hb); have hs23 := hb.size
  replace KS := hide (KS.out.below hb KS.out.lt)
  replace KG := hide (KG.out.below hb KG.out.lt)
  replace KX := hide (KX.out.below hb KX.out.lt)
  replace KH := hide (KH.out.below hb KH.out.lt)
  replace O6 := hide (T.ows_all O6.out hb)
  replace OX := hide (T.ows_all OX.out hb)
  replace O11 := hide (T.ows_all O11.out hb)
  replace De := hide (T.rds_below De.out hb)
  replace Od := hide (T.ow_all Od.out hb)
  clear hb
  have kcKS := KS.out.cell; have klKS := KS.out.lt
  have kcKG := KG.out.cell; have klKG := KG.out.lt
  have kcKX := KX.out.cell; have klKX := KX.out.lt
  have kcKH := KH.out.cell; have klKH := KH.out.lt
  clear De Od
  go_wp2_with fail
  clear kcKS klKS kcKG klKG kcKX klKX kcKH klKH
  have hb : Below w23.heap.size w23 (w23.alloc (.cells #[.int .i64 RS.fLength, .slice A1r17 L1r17 C1r17, .slice A2r17 L2r17 C2r17, .slice A3r17 L3r17 C3r17, .slice A4r17 L4r17 C4r17, .slice A5r17 L5r17 C5r17] 32)) := (Below.refl _ _).alloc (Nat.le_refl _) _
  have KI := hide (Bk.born w23 32 #[.int .i64 RS.fLength, .slice A1r17 L1r17 C1r17, .slice A2r17 L2r17 C2r17, .slice A3r17 L3r17 C3r17, .slice A4r17 L4r17 C4r17, .slice A5r17 L5r17 C5r17])
  generalize (w23.alloc (.cells #[.int .i64 RS.fLength, .slice A1r17 L1r17 C1r17, .slice A2r17 L2r17 C2r17, .slice A3r17 L3r17 C3r17, .slice A4r17 L4r17 C4r17, .slice A5r17 L5r17 C5r17] 32)) = w24 at *
  have ghKI : w23.heap.size < w24.heap.size := KI.out.lt
  have H24 := hide (bthen H23.out H23.out.size hb); have hs24 := hb.size
  replace KS := hide (KS.out.below hb KS.out.lt)
  replace KG := hide (KG.out.below hb KG.out.lt)
  replace KX := hide (KX.out.below hb KX.out.lt)
  replace KH := hide (KH.out.below hb KH.out.lt)
  replace O6 := hide (T.ows_all O6.out hb)
  replace OX := hide (T.ows_all OX.out hb)
  replace O11 := hide (T.ows_all O11.out hb)
  replace O17 := hide (T.ows_all O17.out hb)
  clear hb
  have kcKS := KS.out.cell; have klKS := KS.out.lt
  have kcKG := KG.out.cell; have klKG := KG.out.lt
  have kcKX := KX.out.cell; have klKX := KX.out.lt
  have kcKH := KH.out.cell; have klKH := KH.out.lt
  have kcKI := KI.out.cell; have klKI := KI.out.lt
  refine (b_eqSession RS _ _ _ (T.ows_rds _ _ _ O17.out) (T.ows_rds _ _ _ O6.out)).mono ?_; rintro e w25 ⟨rfl, hb⟩
  clear kcKS klKS kcKG klKG kcKX klKX kcKH klKH kcKI klKI
  have H25 := hide (bthen H24.out H24.out.size hb); have hs25 := hb.size
  replace KS := hide (KS.out.below hb KS.out.lt)
  replace KG := hide (KG.out.below hb KG.out.lt)
  replace KX := hide (KX.out.below hb KX.out.lt)
  replace KH := hide (KH.out.below hb KH.out.lt)
  replace KI := hide (KI.out.below hb KI.out.lt)
  replace O6 := hide (T.ows_all O6.out hb)
  replace OX := hide (T.ows_all OX.out hb)
  replace O11 := hide (T.ows_all O11.out hb)
  replace O17 := hide (T.ows_all O17.out hb)
  clear hb
  have kcKS := KS.out.cell; have klKS := KS.out.lt
  have kcKG := KG.out.cell; have klKG := KG.out.lt
  have kcKX := KX.out.cell; have klKX := KX.out.lt
  have kcKH := KH.out.cell; have klKH := KH.out.lt
  have kcKI := KI.out.cell; have klKI := KI.out.lt
  go_wp2_with fail
  refine (bo_heldSession RS _ 1 _ (by omega) (by omega) (T.ows_rds _ _ _ O11.out)).mono ?_; rintro e w26 ⟨rfl, hb⟩; rw [Emr.out]
  clear kcKS klKS kcKG klKG kcKX klKX kcKH klKH kcKI klKI
  have H26 := hide (bthen H25.out H25.out.size hb); have hs26 := hb.size
  replace KS := hide (KS.out.below hb KS.out.lt)
  replace KG := hide (KG.out.below hb KG.out.lt)
  replace KX := hide (KX.out.below hb KX.out.lt)
  replace KH := hide (KH.out.below hb KH.out.lt)
  replace KI := hide (KI.out.below hb KI.out.lt)
  replace O6 := hide (T.ows_all O6.out hb)
  replace OX := hide (T.ows_all OX.out hb)
  replace O11 := hide (T.ows_all O11.out hb)
  replace O17 := hide (T.ows_all O17.out hb)
  clear hb
  have kcKS := KS.out.cell; have klKS := KS.out.lt
  have kcKG := KG.out.cell; have klKG := KG.out.lt
  have kcKX := KX.out.cell; have klKX := KX.out.lt
  have kcKH := KH.out.cell; have klKH := KH.out.lt
  have kcKI := KI.out.cell; have klKI := KI.out.lt
  go_wp2
  go_ret
  exact ⟨rfl, H26.out⟩
end Go.Proofs.YtgmgjhdckepmmaaGreat
end
section
namespace Go.Proofs.YtgmgjhdckepmmaaGreat
open Go.ChangeShapes
theorem words_pre : ∀ (a r : List Char), (a.all fun c => c != Char.ofNat 32) = true → wordsSigns (a ++ Char.ofNat 32 :: r) = a :: wordsSigns r
  | [], r, _ => rfl
  | c :: a, r, h => by
    simp only [List.all_cons, Bool.and_eq_true, bne_iff_ne, ne_eq] at h
    have ih := words_pre a r (by simpa using h.2)
    rw [List.cons_append]
    conv => lhs; unfold wordsSigns
    split
    · rename_i e; cases e
    · rename_i e
      injection e with e1 _
      exact absurd e1 h.1
    · rename_i e
      injection e with e1 e2
      subst e1 e2
      rw [ih]
set_option maxRecDepth 100000 in
theorem head_list : ∃ l, Tryz.prog.initOrder = String.ofList l ∧ ("harness ca0ca6b343bad0257767fc5d0c6634cf5633e5c95d3cc67abe0d826757ee74a1 cut ".toList).isPrefixOf l = true := by
  refine ⟨_, rfl, ?_⟩
  kernel_rfl
theorem head_words : ∃ X, wordsSigns Tryz.prog.initOrder.toList = "harness".toList :: "ca0ca6b343bad0257767fc5d0c6634cf5633e5c95d3cc67abe0d826757ee74a1".toList :: "cut".toList :: X := by
  obtain ⟨l, hl, hp⟩ := head_list
  obtain ⟨r, hr⟩ := List.isPrefixOf_iff_prefix.1 hp
  have e : "harness ca0ca6b343bad0257767fc5d0c6634cf5633e5c95d3cc67abe0d826757ee74a1 cut ".toList = "harness".toList ++ Char.ofNat 32 :: ("ca0ca6b343bad0257767fc5d0c6634cf5633e5c95d3cc67abe0d826757ee74a1".toList ++ Char.ofNat 32 :: ("cut".toList ++ [Char.ofNat 32])) := by kernel_rfl
  refine ⟨wordsSigns r, ?_⟩
  rw [hl, String.toList_ofList, ← hr, e]
  simp only [List.append_assoc, List.cons_append, List.nil_append]
  rw [words_pre _ _ (by kernel_rfl), words_pre _ _ (by kernel_rfl), words_pre _ _ (by kernel_rfl)]
theorem behind : ∃ X, behindMainWord (wordsSigns Tryz.prog.initOrder.toList) = "cut".toList :: X := by
  obtain ⟨X, hX⟩ := head_words
  refine ⟨X, ?_⟩
  rw [hX]
  have e1 : ("harness".toList == "harness".toList || "harness".toList == "ownmain".toList) = true := by kernel_rfl
  have e2 : isSumSigns "ca0ca6b343bad0257767fc5d0c6634cf5633e5c95d3cc67abe0d826757ee74a1".toList = true := by kernel_rfl
  unfold behindMainWord
  dsimp only
  rw [e1, e2]; rfl
section
variable {P : Program} {X : List (List Char)}
theorem make_of (hX : behindMainWord (wordsSigns P.initOrder.toList) = "cut".toList :: X) : P.make = some .cut := by
  unfold Program.make
  rw [hX]; rfl
theorem lifts_of (X : List (List Char)) : stripLifts liftWords ("cut".toList :: X) = ([], "cut".toList :: X) := rfl
theorem headLifts_of (hX : behindMainWord (wordsSigns P.initOrder.toList) = "cut".toList :: X) : P.headLifts = [] := by
  unfold Program.headLifts
  rw [hX, lifts_of]; rfl
theorem liftsFinal_of (hX : behindMainWord (wordsSigns P.initOrder.toList) = "cut".toList :: X) : P.liftsFinal = false := by
  unfold Program.liftsFinal
  rw [hX, headLifts_of hX]; rfl
theorem mayEnter_of (hX : behindMainWord (wordsSigns P.initOrder.toList) = "cut".toList :: X) (h1 : P.laysLater = false) (h2 : P.bearsReflect = false) (h3 : P.doorFits [] = true) : P.mayEnter = true := by
  unfold Program.mayEnter
  rw [hX]
  dsimp only
  rw [lifts_of, h1, h2, h3]
  rfl
end
theorem make_is : Tryz.prog.make = some .cut := by
  obtain ⟨X, hX⟩ := behind
  exact make_of hX
theorem liftsFinal_is : Tryz.prog.liftsFinal = false := by
  obtain ⟨X, hX⟩ := behind
  exact liftsFinal_of hX
theorem mayEnter_is : Tryz.prog.mayEnter = true := by
  obtain ⟨X, hX⟩ := behind
  exact mayEnter_of hX (by kernel_rfl) (by kernel_rfl) (by kernel_rfl)
theorem laidOut_is : laidOutB Tryz.prog = true := by kernel_rfl
theorem own_is : ownKnob Tryz.prog.godebug = none := by kernel_rfl
end Go.Proofs.YtgmgjhdckepmmaaGreat
end
