/- Contract: l31Invert, reference. -/
import Derived.Test.YtgmgjhdckepmmaaGreatQAzExactInvertEdit
import Derived.Test.YtgmgjhdckepmmaaGreatQBaExactInvertEdit
import Derived.Deep.RegionHeld3
import Derived.StillTailTactics
set_option linter.unusedVariables false
set_option linter.unusedSimpArgs false
namespace Go.Proofs.YtgmgjhdckepmmaaGreat
open Go.RowKit
set_option maxHeartbeats 1000000 in
set_option maxRecDepth 100000 in
theorem c_l31Invert (x : GSession) (b o : Nat) (ed : GEdit) (b' o' : Nat) (w : World) (hs : x.small) (hv : SessionOk x) (hf : FieldsOk ed) (hr : RangeOk x ed) (he : T.at w ed.fs b' o') (h : T.at w x.fs b o) : Calls Tryz.prog 59 #[.pointer (some ⟨b, o, none⟩), .pointer (some ⟨b', o', none⟩)] w fun e w' => e = .returned (.agg (invertF x ed).cs) ∧ Below w.heap.size w w' := by
  have HAT := hide h
  have HRG := hide hr; have HF := hide hf; have HV := hide hv; clear hr hf hv hs
  obtain ⟨hlt0, cs, hr, hc⟩ := h
  obtain ⟨v1, v2, v3, v4, v5, rfl, h1, h2, h3, h4, h5⟩ := GSession.rd_open hr
  clear hr
  have R1 := hide h1; obtain ⟨va1, vc1, rfl, vl1, vm1, vx1⟩ := T.rd_openG h1
  have HX1 := hide vx1; clear vx1 h1
  have R2 := hide h2; obtain ⟨va2, vc2, rfl, vl2, vm2, vx2⟩ := T.rd_openG h2
  have HX2 := hide vx2; clear vx2 h2
  have h3i := T.rd_ints.1 h3; obtain ⟨va3, vc3, rfl, vl3, vm3, vx3⟩ := h3i.open_
  have R3 := hide h3i; have HX3 := hide vx3; clear vx3 h3 h3i
  have R4 := hide h4; obtain ⟨va4, vc4, rfl, vl4, vm4, vx4⟩ := T.rd_openG h4
  have HX4 := hide vx4; clear vx4 h4
  have R5 := hide h5; obtain ⟨va5, vc5, rfl, vl5, vm5, vx5⟩ := T.rd_openG h5
  have HX5 := hide vx5; clear vx5 h5
  have HL := hide hlt0; have HCC := hide hc; have HB0 := hide (Below.refl w.heap.size w); clear hlt0 hc
  obtain ⟨ek, et, ec, ev, ns, nf, nl, na, ng⟩ := ed
  obtain ⟨hlt', cs', hr', hc'⟩ := he
  obtain rfl := GEdit.rd_open hr'
  dsimp only at hc'
  have hff := HF.out; unfold FieldsOk at hff; dsimp only at hff
  by_cases k1 : ek = 1
  ·
    have q1 : (ek == 1) = true := beqI_t k1
    have c0 : w.cell? ⟨b', o', none⟩ = some (.int .i64 ek) := hc' 0 _ rfl
    have c1 : w.cell? ⟨b', o' + 1, none⟩ = some (.int .i64 et) := hc' 1 _ rfl
    have c2 : w.cell? ⟨b', o' + 2, none⟩ = some (.int .i64 ec) := hc' 2 _ rfl
    have HA1 := hide (show Below w.heap.size w (w.alloc (.cells #[.int .i64 0, .int .i64 0, .int .i64 0, .int .i64 0, .int .i64 0, .int .i64 0, .int .i64 0, .int .i64 0, .int .i64 0] 41)) from (Below.refl _ _).alloc (Nat.le_refl _) _)
    have HBX := hide (show Below w.heap.size w ((w.alloc (.cells #[.int .i64 0, .int .i64 0, .int .i64 0, .int .i64 0, .int .i64 0, .int .i64 0, .int .i64 0, .int .i64 0, .int .i64 0] 41)).alloc (.cells #[.int .i64 ek, .int .i64 et, .int .i64 ec, .int .i64 0, .int .i64 0, .int .i64 0, .int .i64 0, .int .i64 0, .int .i64 0] 41)) from HA1.out.alloc HA1.out.size _)
    have HO := hide (Bk.born1' w (.cells #[.int .i64 0, .int .i64 0, .int .i64 0, .int .i64 0, .int .i64 0, .int .i64 0, .int .i64 0, .int .i64 0, .int .i64 0] 41) 41 #[.int .i64 ek, .int .i64 et, .int .i64 ec, .int .i64 0, .int .i64 0, .int .i64 0, .int .i64 0, .int .i64 0, .int .i64 0]); have HR := hide ((Bk.born w 41 #[.int .i64 0, .int .i64 0, .int .i64 0, .int .i64 0, .int .i64 0, .int .i64 0, .int .i64 0, .int .i64 0, .int .i64 0]).alloc (.cells #[.int .i64 ek, .int .i64 et, .int .i64 ec, .int .i64 0, .int .i64 0, .int .i64 0, .int .i64 0, .int .i64 0, .int .i64 0] 41))
    have a0 := (HA1.out.cell hlt').trans c0
    have a1 := (HA1.out.cell hlt').trans c1
    have a2 := (HA1.out.cell hlt').trans c2
    go_enter Tryz.func59, Tryz.ntmps59
    go_wp2_with fail
    go_region_held3 (fun w' => w'.cell? ⟨b', o', none⟩ = some (.int .i64 ek) ∧ w'.cell? ⟨b', o' + 1, none⟩ = some (.int .i64 et) ∧ w'.cell? ⟨b', o' + 2, none⟩ = some (.int .i64 ec)) ((((try simp only [World.cell?_drew])); first | with_reducible exact ⟨a0, a1, a2⟩ | exact ⟨(World.cell?_alloc_lt _ _ _ (Nat.lt_of_lt_of_le hlt' HA1.out.size)).trans a0, (World.cell?_alloc_lt _ _ _ (Nat.lt_of_lt_of_le hlt' HA1.out.size)).trans a1, (World.cell?_alloc_lt _ _ _ (Nat.lt_of_lt_of_le hlt' HA1.out.size)).trans a2⟩)) (fail)
    have HK1 := hide k1; clear k1
    go_wp2
    have nz1 : ¬ w.heap.size = w.heap.size + 1 := by omega
    refine bodyPost_ret (v := .agg #[.int .i64 2, .int .i64 et, .int .i64 ec, .int .i64 0, .int .i64 0, .int .i64 0, .int .i64 0, .int .i64 0, .int .i64 0]) (by simp [results, Tryz.results59, go_sem, nz1]) rfl ?_
    refine ⟨?_, (by repeat (first | with_reducible exact Below.refl _ _ | with_reducible assumption | with_reducible refine Below.setCell ?_ (by first | omega | (simp; done) | (simp; omega)) _ | with_reducible refine Below.alloc ?_ (by first | omega | (simp; done) | (simp; omega)) _ | with_reducible refine Below.drew ?_ | with_reducible refine below_drewN ?_ _ | exact Below.refl _ _ | assumption | refine Below.drew ?_ | refine below_drewN ?_ _ | refine Below.alloc ?_ (by first | omega | (simp; done) | (simp; omega)) _ | refine Below.setCell ?_ (by first | omega | (simp; done) | (simp; omega)) _))⟩
    rw [if_pos (.inl HK1.out)] at hff
    unfold invertF; rw [if_pos HK1.out]; dsimp only [GEdit.cs, noClip]; rw [hff.1]
  have KN1 := hide k1
  by_cases k2 : ek = 2
  ·
    have k5 : (⟨ek, et, ec, ev, ⟨ns, nf, nl, na, ng⟩⟩ : GEdit).fKind ≠ 5 := by show ek ≠ 5; omega
    obtain ⟨k, t, hk, ht⟩ := range_track HRG.out k5
    obtain rfl : et = (k : Int) := hk
    have hlt : k < x.fTracks.length := (List.getElem?_eq_some_iff.1 ht).1
    have hr := HRG.out; unfold RangeOk at hr; rw [if_neg k5] at hr
    have hr := hr.2; dsimp only at hr; rw [clipsAt_of ht] at hr
    have hj : 0 ≤ ec ∧ ec ≤ (t.fClips.length : Int) - 1 := by
      rw [if_neg (by omega), if_neg (by omega), if_pos (by omega)] at hr; exact inB_iff.1 hr
    obtain ⟨j, rfl⟩ : ∃ j : Nat, ec = (j : Int) := ⟨ec.toNat, by omega⟩
    have hjl : j < t.fClips.length := by omega
    have hgj := List.getElem?_eq_getElem hjl
    generalize t.fClips[j] = c at hgj
    have hca : clipAt x ⟨ek, (k : Int), (j : Int), ev, ⟨ns, nf, nl, na, ng⟩⟩ = c := by unfold clipAt; dsimp only; rw [clipsAt_of ht, Int.toNat_natCast, List.getD_eq_getElem?_getD, hgj]; rfl
    have HCA := hide hca; clear hca hr
    obtain ⟨b1, off, cs1, hA, hb1, hcs, hcell⟩ := HX2.out k t ht
    subst hA
    have HBr := hide (Below.refl w.heap.size w)
    obtain ⟨u0, rfl, hRY0⟩ := GTrack.rd_open (show T.rds _ _ _ by simpa only [GTrack.t, T.rd] using hcs)
    have d0 := (HBr.out.cell hb1).trans (hcell 0 (u0) rfl)
    rw [show off + (k * 1 + 0) = off + k by omega] at d0
    have RY0 := hide (T.rd_below hRY0 HBr.out); clear hRY0
    clear hcs hcell
    obtain ⟨ua0, uc0, rfl, ul0, um0, ux0⟩ := T.rd_openG RY0.out
    obtain ⟨b2, of2, cs2, hA2, hb2, hcs2, hcell2⟩ := ux0 j c hgj
    subst hA2
    obtain rfl := GClip.rd_open (show T.rds _ _ _ by simpa only [GClip.t, T.rd] using hcs2)
    have e0 := (HBr.out.cell hb2).trans (hcell2 0 (.int .i64 c.fSource) rfl)
    have e1 := (HBr.out.cell hb2).trans (hcell2 1 (.int .i64 c.fFrom) rfl)
    have e2 := (HBr.out.cell hb2).trans (hcell2 2 (.int .i64 c.fLength) rfl)
    have e3 := (HBr.out.cell hb2).trans (hcell2 3 (.int .i64 c.fAt) rfl)
    have e4 := (HBr.out.cell hb2).trans (hcell2 4 (.int .i64 c.fGain) rfl)
    rw [show of2 + (j * 5 + 0) = of2 + j * 5 by omega] at e0
    rw [show of2 + (j * 5 + 1) = of2 + j * 5 + 1 by omega] at e1
    rw [show of2 + (j * 5 + 2) = of2 + j * 5 + 2 by omega] at e2
    rw [show of2 + (j * 5 + 3) = of2 + j * 5 + 3 by omega] at e3
    rw [show of2 + (j * 5 + 4) = of2 + j * 5 + 4 by omega] at e4
    clear hcs2 hcell2
    clear ux0 HBr
    have hi0 : (0 : Int) ≤ (k : Int) := by omega
    have hi1 : (k : Int) < (x.fTracks.length : Int) := by omega
    have hi2 : (0 : Int) ≤ (j : Int) := by omega
    have hi3 : (j : Int) < (t.fClips.length : Int) := by omega
    have p2 : w.cell? ⟨b, o + 2, none⟩ = some (.slice (some ⟨b1, off, none⟩) x.fTracks.length vc2) := HCC.out 2 _ rfl
    clear HCC
    have q1 : (ek == 1) = false := beqI_f (by omega)
    have q2 : (ek == 2) = true := beqI_t (by omega)
    have HK2 := hide k2
    clear k1 k2
    have c0 : w.cell? ⟨b', o', none⟩ = some (.int .i64 ek) := hc' 0 _ rfl
    have c1 : w.cell? ⟨b', o' + 1, none⟩ = some (.int .i64 (k : Int)) := hc' 1 _ rfl
    have c2 : w.cell? ⟨b', o' + 2, none⟩ = some (.int .i64 (j : Int)) := hc' 2 _ rfl
    have HA1 := hide (show Below w.heap.size w (w.alloc (.cells #[.int .i64 0, .int .i64 0, .int .i64 0, .int .i64 0, .int .i64 0, .int .i64 0, .int .i64 0, .int .i64 0, .int .i64 0] 41)) from (Below.refl _ _).alloc (Nat.le_refl _) _)
    have HBX := hide (show Below w.heap.size w ((w.alloc (.cells #[.int .i64 0, .int .i64 0, .int .i64 0, .int .i64 0, .int .i64 0, .int .i64 0, .int .i64 0, .int .i64 0, .int .i64 0] 41)).alloc (.cells #[.int .i64 ek, .int .i64 (k : Int), .int .i64 (j : Int), .int .i64 0, .int .i64 0, .int .i64 0, .int .i64 0, .int .i64 0, .int .i64 0] 41)) from HA1.out.alloc HA1.out.size _)
    have HO := hide (Bk.born1' w (.cells #[.int .i64 0, .int .i64 0, .int .i64 0, .int .i64 0, .int .i64 0, .int .i64 0, .int .i64 0, .int .i64 0, .int .i64 0] 41) 41 #[.int .i64 ek, .int .i64 (k : Int), .int .i64 (j : Int), .int .i64 0, .int .i64 0, .int .i64 0, .int .i64 0, .int .i64 0, .int .i64 0]); have HR := hide ((Bk.born w 41 #[.int .i64 0, .int .i64 0, .int .i64 0, .int .i64 0, .int .i64 0, .int .i64 0, .int .i64 0, .int .i64 0, .int .i64 0]).alloc (.cells #[.int .i64 ek, .int .i64 (k : Int), .int .i64 (j : Int), .int .i64 0, .int .i64 0, .int .i64 0, .int .i64 0, .int .i64 0, .int .i64 0] 41))
    have a0 := (HA1.out.cell hlt').trans c0
    have a1 := (HA1.out.cell hlt').trans c1
    have a2 := (HA1.out.cell hlt').trans c2
    go_enter Tryz.func59, Tryz.ntmps59
    go_wp2_with fail
    go_region_held3 (fun w' => w'.cell? ⟨b', o', none⟩ = some (.int .i64 ek) ∧ w'.cell? ⟨b', o' + 1, none⟩ = some (.int .i64 (k : Int)) ∧ w'.cell? ⟨b', o' + 2, none⟩ = some (.int .i64 (j : Int))) ((((try simp only [World.cell?_drew])); first | with_reducible exact ⟨a0, a1, a2⟩ | exact ⟨(World.cell?_alloc_lt _ _ _ (Nat.lt_of_lt_of_le hlt' HA1.out.size)).trans a0, (World.cell?_alloc_lt _ _ _ (Nat.lt_of_lt_of_le hlt' HA1.out.size)).trans a1, (World.cell?_alloc_lt _ _ _ (Nat.lt_of_lt_of_le hlt' HA1.out.size)).trans a2⟩)) (fail)
    go_wp2
    have HB2 := hide (show Below w.heap.size w (World.drew ((w.alloc (.cells #[.int .i64 0, .int .i64 0, .int .i64 0, .int .i64 0, .int .i64 0, .int .i64 0, .int .i64 0, .int .i64 0, .int .i64 0] 41)).alloc (.cells #[.int .i64 1, .int .i64 (k : Int), .int .i64 (j : Int), .int .i64 0, .int .i64 0, .int .i64 0, .int .i64 0, .int .i64 0, .int .i64 0] 41))) from ((HA1.out.alloc HA1.out.size _)).drew)
    have HCC : Sec (Bk (World.drew ((w.alloc (.cells #[.int .i64 0, .int .i64 0, .int .i64 0, .int .i64 0, .int .i64 0, .int .i64 0, .int .i64 0, .int .i64 0, .int .i64 0] 41)).alloc (.cells #[.int .i64 1, .int .i64 (k : Int), .int .i64 (j : Int), .int .i64 0, .int .i64 0, .int .i64 0, .int .i64 0, .int .i64 0, .int .i64 0] 41))) (w.heap.size + 1) 41 #[.int .i64 1, .int .i64 (k : Int), .int .i64 (j : Int), .int .i64 0, .int .i64 0, .int .i64 0, .int .i64 0, .int .i64 0, .int .i64 0]) := hide (Bk.born1' w (.cells #[.int .i64 0, .int .i64 0, .int .i64 0, .int .i64 0, .int .i64 0, .int .i64 0, .int .i64 0, .int .i64 0, .int .i64 0] 41) 41 #[.int .i64 1, .int .i64 (k : Int), .int .i64 (j : Int), .int .i64 0, .int .i64 0, .int .i64 0, .int .i64 0, .int .i64 0, .int .i64 0])
    have HRX : Sec (Bk (World.drew ((w.alloc (.cells #[.int .i64 0, .int .i64 0, .int .i64 0, .int .i64 0, .int .i64 0, .int .i64 0, .int .i64 0, .int .i64 0, .int .i64 0] 41)).alloc (.cells #[.int .i64 1, .int .i64 (k : Int), .int .i64 (j : Int), .int .i64 0, .int .i64 0, .int .i64 0, .int .i64 0, .int .i64 0, .int .i64 0] 41))) w.heap.size 41 #[.int .i64 0, .int .i64 0, .int .i64 0, .int .i64 0, .int .i64 0, .int .i64 0, .int .i64 0, .int .i64 0, .int .i64 0]) := hide ((Bk.born w 41 #[.int .i64 0, .int .i64 0, .int .i64 0, .int .i64 0, .int .i64 0, .int .i64 0, .int .i64 0, .int .i64 0, .int .i64 0]).alloc (.cells #[.int .i64 1, .int .i64 (k : Int), .int .i64 (j : Int), .int .i64 0, .int .i64 0, .int .i64 0, .int .i64 0, .int .i64 0, .int .i64 0] 41))
    clear a0 a1 a2 HO HR HBX
    generalize hW4 : World.drew ((w.alloc (.cells #[.int .i64 0, .int .i64 0, .int .i64 0, .int .i64 0, .int .i64 0, .int .i64 0, .int .i64 0, .int .i64 0, .int .i64 0] 41)).alloc (.cells #[.int .i64 1, .int .i64 (k : Int), .int .i64 (j : Int), .int .i64 0, .int .i64 0, .int .i64 0, .int .i64 0, .int .i64 0, .int .i64 0] 41)) = W4 at *
    clear hW4
    have kcc := HCC.out.cell; have fcc := HCC.out.free; have lcc := HCC.out.lt; have kr := HRX.out.cell; have fr := HRX.out.free; have lr := HRX.out.lt
    have nz1 : ¬ w.heap.size = w.heap.size + 1 := by omega
    have nz2 : ¬ w.heap.size + 1 = w.heap.size := by omega
    have a1 := (HB2.out.cell hlt').trans c1
    have a2 := (HB2.out.cell hlt').trans c2
    have lb' := Nat.lt_of_lt_of_le hlt' HB2.out.size; have lb := Nat.lt_of_lt_of_le HL.out HB2.out.size
    have m0 := (HB2.out.cell hb1).trans d0; have p2' := (HB2.out.cell HL.out).trans p2
    have m1 := (HB2.out.cell hb2).trans e0
    have m2 := (HB2.out.cell hb2).trans e1
    have m3 := (HB2.out.cell hb2).trans e2
    have m4 := (HB2.out.cell hb2).trans e3
    have m5 := (HB2.out.cell hb2).trans e4
    have lb1 := Nat.lt_of_lt_of_le hb1 HB2.out.size; have lb2 := Nat.lt_of_lt_of_le hb2 HB2.out.size
    refine wp_region_still_tail 18 (by kernel_rfl) (by kernel_rfl) ?_
    simp only [List.take_succ_cons, List.take_zero, List.drop_succ_cons, List.drop_zero]
    change wpStill _ _ (World.drew W4) (fun a' => wpList _ _ _ _ a' (World.drew W4)) _ _
    repeat still_step
    refine wpStill_nil ?_
    clear m0 m1 m2 m3 m4 m5 p2' a1 a2
    go_wp2
    refine bodyPost_ret (v := .agg #[.int .i64 1, .int .i64 (k : Int), .int .i64 (j : Int), .int .i64 0, .int .i64 c.fSource, .int .i64 c.fFrom, .int .i64 c.fLength, .int .i64 c.fAt, .int .i64 c.fGain]) (by simp [results, Tryz.results59, go_sem, kr, fr, lr, nz1, nz2]) rfl ?_
    have hb := HB2.out
    refine ⟨?_, (by repeat (first | with_reducible exact Below.refl _ _ | with_reducible assumption | with_reducible refine Below.setCell ?_ (by first | omega | (simp; done) | (simp; omega)) _ | with_reducible refine Below.alloc ?_ (by first | omega | (simp; done) | (simp; omega)) _ | with_reducible refine Below.drew ?_ | with_reducible refine below_drewN ?_ _ | exact Below.refl _ _ | assumption | refine Below.drew ?_ | refine below_drewN ?_ _ | refine Below.alloc ?_ (by first | omega | (simp; done) | (simp; omega)) _ | refine Below.setCell ?_ (by first | omega | (simp; done) | (simp; omega)) _))⟩
    rw [show invertF x _ = _ from by unfold invertF; rw [if_neg KN1.out, if_pos HK2.out, HCA.out]]
    rw [if_neg (by have h1 := KN1.out; have h2 := HK2.out; omega), if_pos HK2.out] at hff; dsimp only [GEdit.cs]; rw [hff.1]
  have KN2 := hide k2
  by_cases k3 : ek = 3
  ·
    have k5 : (⟨ek, et, ec, ev, ⟨ns, nf, nl, na, ng⟩⟩ : GEdit).fKind ≠ 5 := by show ek ≠ 5; omega
    obtain ⟨k, t, hk, ht⟩ := range_track HRG.out k5
    obtain rfl : et = (k : Int) := hk
    have hlt : k < x.fTracks.length := (List.getElem?_eq_some_iff.1 ht).1
    have hr := HRG.out; unfold RangeOk at hr; rw [if_neg k5] at hr
    have hr := hr.2; dsimp only at hr; rw [clipsAt_of ht] at hr
    have hj : 0 ≤ ec ∧ ec ≤ (t.fClips.length : Int) - 1 := by
      rw [if_neg (by omega), if_pos (by omega)] at hr; exact inB_iff.1 hr.1
    obtain ⟨j, rfl⟩ : ∃ j : Nat, ec = (j : Int) := ⟨ec.toNat, by omega⟩
    have hjl : j < t.fClips.length := by omega
    have hgj := List.getElem?_eq_getElem hjl
    generalize t.fClips[j] = c at hgj
    have hca : clipAt x ⟨ek, (k : Int), (j : Int), ev, ⟨ns, nf, nl, na, ng⟩⟩ = c := by unfold clipAt; dsimp only; rw [clipsAt_of ht, Int.toNat_natCast, List.getD_eq_getElem?_getD, hgj]; rfl
    have HCA := hide hca; clear hca hr
    obtain ⟨b1, off, cs1, hA, hb1, hcs, hcell⟩ := HX2.out k t ht
    subst hA
    have HBr := hide (Below.refl w.heap.size w)
    obtain ⟨u0, rfl, hRY0⟩ := GTrack.rd_open (show T.rds _ _ _ by simpa only [GTrack.t, T.rd] using hcs)
    have d0 := (HBr.out.cell hb1).trans (hcell 0 (u0) rfl)
    rw [show off + (k * 1 + 0) = off + k by omega] at d0
    have RY0 := hide (T.rd_below hRY0 HBr.out); clear hRY0
    clear hcs hcell
    obtain ⟨ua0, uc0, rfl, ul0, um0, ux0⟩ := T.rd_openG RY0.out
    obtain ⟨b2, of2, cs2, hA2, hb2, hcs2, hcell2⟩ := ux0 j c hgj
    subst hA2
    obtain rfl := GClip.rd_open (show T.rds _ _ _ by simpa only [GClip.t, T.rd] using hcs2)
    have e0 := (HBr.out.cell hb2).trans (hcell2 0 (.int .i64 c.fSource) rfl)
    have e1 := (HBr.out.cell hb2).trans (hcell2 1 (.int .i64 c.fFrom) rfl)
    have e2 := (HBr.out.cell hb2).trans (hcell2 2 (.int .i64 c.fLength) rfl)
    have e3 := (HBr.out.cell hb2).trans (hcell2 3 (.int .i64 c.fAt) rfl)
    have e4 := (HBr.out.cell hb2).trans (hcell2 4 (.int .i64 c.fGain) rfl)
    rw [show of2 + (j * 5 + 0) = of2 + j * 5 by omega] at e0
    rw [show of2 + (j * 5 + 1) = of2 + j * 5 + 1 by omega] at e1
    rw [show of2 + (j * 5 + 2) = of2 + j * 5 + 2 by omega] at e2
    rw [show of2 + (j * 5 + 3) = of2 + j * 5 + 3 by omega] at e3
    rw [show of2 + (j * 5 + 4) = of2 + j * 5 + 4 by omega] at e4
    clear hcs2 hcell2
    clear ux0 HBr
    have hi0 : (0 : Int) ≤ (k : Int) := by omega
    have hi1 : (k : Int) < (x.fTracks.length : Int) := by omega
    have hi2 : (0 : Int) ≤ (j : Int) := by omega
    have hi3 : (j : Int) < (t.fClips.length : Int) := by omega
    have p2 : w.cell? ⟨b, o + 2, none⟩ = some (.slice (some ⟨b1, off, none⟩) x.fTracks.length vc2) := HCC.out 2 _ rfl
    clear HCC
    have q1 : (ek == 1) = false := beqI_f (by omega)
    have q2 : (ek == 2) = false := beqI_f (by omega)
    have q3 : (ek == 3) = true := beqI_t (by omega)
    have HK3 := hide k3
    clear k1 k2 k3
    have c0 : w.cell? ⟨b', o', none⟩ = some (.int .i64 ek) := hc' 0 _ rfl
    have c1 : w.cell? ⟨b', o' + 1, none⟩ = some (.int .i64 (k : Int)) := hc' 1 _ rfl
    have c2 : w.cell? ⟨b', o' + 2, none⟩ = some (.int .i64 (j : Int)) := hc' 2 _ rfl
    have HA1 := hide (show Below w.heap.size w (w.alloc (.cells #[.int .i64 0, .int .i64 0, .int .i64 0, .int .i64 0, .int .i64 0, .int .i64 0, .int .i64 0, .int .i64 0, .int .i64 0] 41)) from (Below.refl _ _).alloc (Nat.le_refl _) _)
    have HBX := hide (show Below w.heap.size w ((w.alloc (.cells #[.int .i64 0, .int .i64 0, .int .i64 0, .int .i64 0, .int .i64 0, .int .i64 0, .int .i64 0, .int .i64 0, .int .i64 0] 41)).alloc (.cells #[.int .i64 ek, .int .i64 (k : Int), .int .i64 (j : Int), .int .i64 0, .int .i64 0, .int .i64 0, .int .i64 0, .int .i64 0, .int .i64 0] 41)) from HA1.out.alloc HA1.out.size _)
    have HO := hide (Bk.born1' w (.cells #[.int .i64 0, .int .i64 0, .int .i64 0, .int .i64 0, .int .i64 0, .int .i64 0, .int .i64 0, .int .i64 0, .int .i64 0] 41) 41 #[.int .i64 ek, .int .i64 (k : Int), .int .i64 (j : Int), .int .i64 0, .int .i64 0, .int .i64 0, .int .i64 0, .int .i64 0, .int .i64 0]); have HR := hide ((Bk.born w 41 #[.int .i64 0, .int .i64 0, .int .i64 0, .int .i64 0, .int .i64 0, .int .i64 0, .int .i64 0, .int .i64 0, .int .i64 0]).alloc (.cells #[.int .i64 ek, .int .i64 (k : Int), .int .i64 (j : Int), .int .i64 0, .int .i64 0, .int .i64 0, .int .i64 0, .int .i64 0, .int .i64 0] 41))
    have a0 := (HA1.out.cell hlt').trans c0
    have a1 := (HA1.out.cell hlt').trans c1
    have a2 := (HA1.out.cell hlt').trans c2
    go_enter Tryz.func59, Tryz.ntmps59
    go_wp2_with fail
    go_region_held3 (fun w' => w'.cell? ⟨b', o', none⟩ = some (.int .i64 ek) ∧ w'.cell? ⟨b', o' + 1, none⟩ = some (.int .i64 (k : Int)) ∧ w'.cell? ⟨b', o' + 2, none⟩ = some (.int .i64 (j : Int))) ((((try simp only [World.cell?_drew])); first | with_reducible exact ⟨a0, a1, a2⟩ | exact ⟨(World.cell?_alloc_lt _ _ _ (Nat.lt_of_lt_of_le hlt' HA1.out.size)).trans a0, (World.cell?_alloc_lt _ _ _ (Nat.lt_of_lt_of_le hlt' HA1.out.size)).trans a1, (World.cell?_alloc_lt _ _ _ (Nat.lt_of_lt_of_le hlt' HA1.out.size)).trans a2⟩)) (fail)
    go_wp2
    have HB2 := hide (show Below w.heap.size w (World.drew ((w.alloc (.cells #[.int .i64 0, .int .i64 0, .int .i64 0, .int .i64 0, .int .i64 0, .int .i64 0, .int .i64 0, .int .i64 0, .int .i64 0] 41)).alloc (.cells #[.int .i64 ek, .int .i64 (k : Int), .int .i64 (j : Int), .int .i64 0, .int .i64 0, .int .i64 0, .int .i64 0, .int .i64 0, .int .i64 0] 41))) from ((HA1.out.alloc HA1.out.size _)).drew)
    have HCC : Sec (Bk (World.drew ((w.alloc (.cells #[.int .i64 0, .int .i64 0, .int .i64 0, .int .i64 0, .int .i64 0, .int .i64 0, .int .i64 0, .int .i64 0, .int .i64 0] 41)).alloc (.cells #[.int .i64 ek, .int .i64 (k : Int), .int .i64 (j : Int), .int .i64 0, .int .i64 0, .int .i64 0, .int .i64 0, .int .i64 0, .int .i64 0] 41))) (w.heap.size + 1) 41 #[.int .i64 ek, .int .i64 (k : Int), .int .i64 (j : Int), .int .i64 0, .int .i64 0, .int .i64 0, .int .i64 0, .int .i64 0, .int .i64 0]) := hide (Bk.born1' w (.cells #[.int .i64 0, .int .i64 0, .int .i64 0, .int .i64 0, .int .i64 0, .int .i64 0, .int .i64 0, .int .i64 0, .int .i64 0] 41) 41 #[.int .i64 ek, .int .i64 (k : Int), .int .i64 (j : Int), .int .i64 0, .int .i64 0, .int .i64 0, .int .i64 0, .int .i64 0, .int .i64 0])
    have HRX : Sec (Bk (World.drew ((w.alloc (.cells #[.int .i64 0, .int .i64 0, .int .i64 0, .int .i64 0, .int .i64 0, .int .i64 0, .int .i64 0, .int .i64 0, .int .i64 0] 41)).alloc (.cells #[.int .i64 ek, .int .i64 (k : Int), .int .i64 (j : Int), .int .i64 0, .int .i64 0, .int .i64 0, .int .i64 0, .int .i64 0, .int .i64 0] 41))) w.heap.size 41 #[.int .i64 0, .int .i64 0, .int .i64 0, .int .i64 0, .int .i64 0, .int .i64 0, .int .i64 0, .int .i64 0, .int .i64 0]) := hide ((Bk.born w 41 #[.int .i64 0, .int .i64 0, .int .i64 0, .int .i64 0, .int .i64 0, .int .i64 0, .int .i64 0, .int .i64 0, .int .i64 0]).alloc (.cells #[.int .i64 ek, .int .i64 (k : Int), .int .i64 (j : Int), .int .i64 0, .int .i64 0, .int .i64 0, .int .i64 0, .int .i64 0, .int .i64 0] 41))
    clear a0 a1 a2 HO HR HBX
    generalize hW4 : World.drew ((w.alloc (.cells #[.int .i64 0, .int .i64 0, .int .i64 0, .int .i64 0, .int .i64 0, .int .i64 0, .int .i64 0, .int .i64 0, .int .i64 0] 41)).alloc (.cells #[.int .i64 ek, .int .i64 (k : Int), .int .i64 (j : Int), .int .i64 0, .int .i64 0, .int .i64 0, .int .i64 0, .int .i64 0, .int .i64 0] 41)) = W4 at *
    clear hW4
    have kcc := HCC.out.cell; have fcc := HCC.out.free; have lcc := HCC.out.lt; have kr := HRX.out.cell; have fr := HRX.out.free; have lr := HRX.out.lt
    have nz1 : ¬ w.heap.size = w.heap.size + 1 := by omega
    have nz2 : ¬ w.heap.size + 1 = w.heap.size := by omega
    have a1 := (HB2.out.cell hlt').trans c1
    have a2 := (HB2.out.cell hlt').trans c2
    have lb' := Nat.lt_of_lt_of_le hlt' HB2.out.size; have lb := Nat.lt_of_lt_of_le HL.out HB2.out.size
    have m0 := (HB2.out.cell hb1).trans d0; have p2' := (HB2.out.cell HL.out).trans p2
    have m1 := (HB2.out.cell hb2).trans e0
    have m2 := (HB2.out.cell hb2).trans e1
    have m3 := (HB2.out.cell hb2).trans e2
    have m4 := (HB2.out.cell hb2).trans e3
    have m5 := (HB2.out.cell hb2).trans e4
    have lb1 := Nat.lt_of_lt_of_le hb1 HB2.out.size; have lb2 := Nat.lt_of_lt_of_le hb2 HB2.out.size
    refine wp_region_still_tail 18 (by kernel_rfl) (by kernel_rfl) ?_
    simp only [List.take_succ_cons, List.take_zero, List.drop_succ_cons, List.drop_zero]
    change wpStill _ _ (World.drew W4) (fun a' => wpList _ _ _ _ a' (World.drew W4)) _ _
    repeat still_step
    refine wpStill_nil ?_
    clear m0 m1 m2 m3 m4 m5 p2' a1 a2
    go_wp2
    refine bodyPost_ret (v := .agg #[.int .i64 ek, .int .i64 (k : Int), .int .i64 (j : Int), .int .i64 0, .int .i64 c.fSource, .int .i64 c.fFrom, .int .i64 c.fLength, .int .i64 c.fAt, .int .i64 c.fGain]) (by simp [results, Tryz.results59, go_sem, kr, fr, lr, nz1, nz2]) rfl ?_
    have hb := HB2.out
    refine ⟨?_, (by repeat (first | with_reducible exact Below.refl _ _ | with_reducible assumption | with_reducible refine Below.setCell ?_ (by first | omega | (simp; done) | (simp; omega)) _ | with_reducible refine Below.alloc ?_ (by first | omega | (simp; done) | (simp; omega)) _ | with_reducible refine Below.drew ?_ | with_reducible refine below_drewN ?_ _ | exact Below.refl _ _ | assumption | refine Below.drew ?_ | refine below_drewN ?_ _ | refine Below.alloc ?_ (by first | omega | (simp; done) | (simp; omega)) _ | refine Below.setCell ?_ (by first | omega | (simp; done) | (simp; omega)) _))⟩
    rw [show invertF x _ = _ from by unfold invertF; rw [if_neg KN1.out, if_neg KN2.out, if_pos HK3.out, HCA.out]]
    rw [if_pos (.inr HK3.out)] at hff; dsimp only [GEdit.cs]; rw [hff.1]
  have KN3 := hide k3
  by_cases k4 : ek = 4
  ·
    have k5 : (⟨ek, et, ec, ev, ⟨ns, nf, nl, na, ng⟩⟩ : GEdit).fKind ≠ 5 := by show ek ≠ 5; omega
    obtain ⟨k, t, hk, ht⟩ := range_track HRG.out k5
    obtain rfl : et = (k : Int) := hk
    have hlt : k < x.fTracks.length := (List.getElem?_eq_some_iff.1 ht).1
    have hr := HRG.out; unfold RangeOk at hr; rw [if_neg k5] at hr
    have hr := hr.2; dsimp only at hr; rw [clipsAt_of ht] at hr
    have hlf : k < x.fFeeds.length := by have h2 := HV.out.feed; omega
    have hgk := List.getElem?_eq_getElem hlf
    have hfd : x.fFeeds.getD k 0 = x.fFeeds[k] := by rw [List.getD_eq_getElem?_getD, hgk]; rfl
    generalize x.fFeeds[k] = y at *
    have HFD := hide hfd; clear hfd hr
    obtain ⟨b1, off, hA, hb1, hcell⟩ := HX3.out k y hgk
    subst hA
    have hi0 : (0 : Int) ≤ (k : Int) := by omega
    have hi1 : (k : Int) < (x.fFeeds.length : Int) := by omega
    have p3 : w.cell? ⟨b, o + 3, none⟩ = some (.slice (some ⟨b1, off, none⟩) x.fFeeds.length vc3) := HCC.out 3 _ rfl
    clear HCC
    have q1 : (ek == 1) = false := beqI_f (by omega)
    have q2 : (ek == 2) = false := beqI_f (by omega)
    have q3 : (ek == 3) = false := beqI_f (by omega)
    have q4 : (ek == 4) = true := beqI_t (by omega)
    have HK4 := hide k4; clear k1 k2 k3 k4 k5
    have c0 : w.cell? ⟨b', o', none⟩ = some (.int .i64 ek) := hc' 0 _ rfl
    have c1 : w.cell? ⟨b', o' + 1, none⟩ = some (.int .i64 (k : Int)) := hc' 1 _ rfl
    have c2 : w.cell? ⟨b', o' + 2, none⟩ = some (.int .i64 ec) := hc' 2 _ rfl
    have HA1 := hide (show Below w.heap.size w (w.alloc (.cells #[.int .i64 0, .int .i64 0, .int .i64 0, .int .i64 0, .int .i64 0, .int .i64 0, .int .i64 0, .int .i64 0, .int .i64 0] 41)) from (Below.refl _ _).alloc (Nat.le_refl _) _)
    have HBX := hide (show Below w.heap.size w ((w.alloc (.cells #[.int .i64 0, .int .i64 0, .int .i64 0, .int .i64 0, .int .i64 0, .int .i64 0, .int .i64 0, .int .i64 0, .int .i64 0] 41)).alloc (.cells #[.int .i64 ek, .int .i64 (k : Int), .int .i64 ec, .int .i64 0, .int .i64 0, .int .i64 0, .int .i64 0, .int .i64 0, .int .i64 0] 41)) from HA1.out.alloc HA1.out.size _)
    have HO := hide (Bk.born1' w (.cells #[.int .i64 0, .int .i64 0, .int .i64 0, .int .i64 0, .int .i64 0, .int .i64 0, .int .i64 0, .int .i64 0, .int .i64 0] 41) 41 #[.int .i64 ek, .int .i64 (k : Int), .int .i64 ec, .int .i64 0, .int .i64 0, .int .i64 0, .int .i64 0, .int .i64 0, .int .i64 0]); have HR := hide ((Bk.born w 41 #[.int .i64 0, .int .i64 0, .int .i64 0, .int .i64 0, .int .i64 0, .int .i64 0, .int .i64 0, .int .i64 0, .int .i64 0]).alloc (.cells #[.int .i64 ek, .int .i64 (k : Int), .int .i64 ec, .int .i64 0, .int .i64 0, .int .i64 0, .int .i64 0, .int .i64 0, .int .i64 0] 41))
    have a0 := (HA1.out.cell hlt').trans c0
    have a1 := (HA1.out.cell hlt').trans c1
    have a2 := (HA1.out.cell hlt').trans c2
    go_enter Tryz.func59, Tryz.ntmps59
    go_wp2_with fail
    go_region_held3 (fun w' => w'.cell? ⟨b', o', none⟩ = some (.int .i64 ek) ∧ w'.cell? ⟨b', o' + 1, none⟩ = some (.int .i64 (k : Int)) ∧ w'.cell? ⟨b', o' + 2, none⟩ = some (.int .i64 ec)) ((((try simp only [World.cell?_drew])); first | with_reducible exact ⟨a0, a1, a2⟩ | exact ⟨(World.cell?_alloc_lt _ _ _ (Nat.lt_of_lt_of_le hlt' HA1.out.size)).trans a0, (World.cell?_alloc_lt _ _ _ (Nat.lt_of_lt_of_le hlt' HA1.out.size)).trans a1, (World.cell?_alloc_lt _ _ _ (Nat.lt_of_lt_of_le hlt' HA1.out.size)).trans a2⟩)) (fail)
    go_wp2
    have HB2 := hide (show Below w.heap.size w (World.drew ((w.alloc (.cells #[.int .i64 0, .int .i64 0, .int .i64 0, .int .i64 0, .int .i64 0, .int .i64 0, .int .i64 0, .int .i64 0, .int .i64 0] 41)).alloc (.cells #[.int .i64 ek, .int .i64 (k : Int), .int .i64 ec, .int .i64 0, .int .i64 0, .int .i64 0, .int .i64 0, .int .i64 0, .int .i64 0] 41))) from ((HA1.out.alloc HA1.out.size _)).drew)
    have HCC : Sec (Bk (World.drew ((w.alloc (.cells #[.int .i64 0, .int .i64 0, .int .i64 0, .int .i64 0, .int .i64 0, .int .i64 0, .int .i64 0, .int .i64 0, .int .i64 0] 41)).alloc (.cells #[.int .i64 ek, .int .i64 (k : Int), .int .i64 ec, .int .i64 0, .int .i64 0, .int .i64 0, .int .i64 0, .int .i64 0, .int .i64 0] 41))) (w.heap.size + 1) 41 #[.int .i64 ek, .int .i64 (k : Int), .int .i64 ec, .int .i64 0, .int .i64 0, .int .i64 0, .int .i64 0, .int .i64 0, .int .i64 0]) := hide (Bk.born1' w (.cells #[.int .i64 0, .int .i64 0, .int .i64 0, .int .i64 0, .int .i64 0, .int .i64 0, .int .i64 0, .int .i64 0, .int .i64 0] 41) 41 #[.int .i64 ek, .int .i64 (k : Int), .int .i64 ec, .int .i64 0, .int .i64 0, .int .i64 0, .int .i64 0, .int .i64 0, .int .i64 0])
    have HRX : Sec (Bk (World.drew ((w.alloc (.cells #[.int .i64 0, .int .i64 0, .int .i64 0, .int .i64 0, .int .i64 0, .int .i64 0, .int .i64 0, .int .i64 0, .int .i64 0] 41)).alloc (.cells #[.int .i64 ek, .int .i64 (k : Int), .int .i64 ec, .int .i64 0, .int .i64 0, .int .i64 0, .int .i64 0, .int .i64 0, .int .i64 0] 41))) w.heap.size 41 #[.int .i64 0, .int .i64 0, .int .i64 0, .int .i64 0, .int .i64 0, .int .i64 0, .int .i64 0, .int .i64 0, .int .i64 0]) := hide ((Bk.born w 41 #[.int .i64 0, .int .i64 0, .int .i64 0, .int .i64 0, .int .i64 0, .int .i64 0, .int .i64 0, .int .i64 0, .int .i64 0]).alloc (.cells #[.int .i64 ek, .int .i64 (k : Int), .int .i64 ec, .int .i64 0, .int .i64 0, .int .i64 0, .int .i64 0, .int .i64 0, .int .i64 0] 41))
    clear a0 a1 a2 HO HR HBX
    generalize hW4 : World.drew ((w.alloc (.cells #[.int .i64 0, .int .i64 0, .int .i64 0, .int .i64 0, .int .i64 0, .int .i64 0, .int .i64 0, .int .i64 0, .int .i64 0] 41)).alloc (.cells #[.int .i64 ek, .int .i64 (k : Int), .int .i64 ec, .int .i64 0, .int .i64 0, .int .i64 0, .int .i64 0, .int .i64 0, .int .i64 0] 41)) = W4 at *
    clear hW4
    have kcc := HCC.out.cell; have fcc := HCC.out.free; have lcc := HCC.out.lt; have kr := HRX.out.cell; have fr := HRX.out.free; have lr := HRX.out.lt
    have nz1 : ¬ w.heap.size = w.heap.size + 1 := by omega
    have nz2 : ¬ w.heap.size + 1 = w.heap.size := by omega
    have a1 := (HB2.out.cell hlt').trans c1
    have a2 := (HB2.out.cell hlt').trans c2
    have lb' := Nat.lt_of_lt_of_le hlt' HB2.out.size; have lb := Nat.lt_of_lt_of_le HL.out HB2.out.size
    have m0 := (HB2.out.cell hb1).trans hcell; have p3' := (HB2.out.cell HL.out).trans p3; have lb1 := Nat.lt_of_lt_of_le hb1 HB2.out.size
    refine wp_region_still_tail 11 (by kernel_rfl) (by kernel_rfl) ?_
    simp only [List.take_succ_cons, List.take_zero, List.drop_succ_cons, List.drop_zero]
    change wpStill _ _ (World.drew W4) (fun a' => wpList _ _ _ _ a' (World.drew W4)) _ _
    repeat still_step
    refine wpStill_nil ?_
    clear m0 p3' a1 a2
    go_wp2
    refine bodyPost_ret (v := .agg #[.int .i64 ek, .int .i64 (k : Int), .int .i64 ec, .int .i64 y, .int .i64 0, .int .i64 0, .int .i64 0, .int .i64 0, .int .i64 0]) (by simp [results, Tryz.results59, go_sem, kr, fr, lr, nz1, nz2]) rfl ?_
    have hb := HB2.out
    refine ⟨?_, (by repeat (first | with_reducible exact Below.refl _ _ | with_reducible assumption | with_reducible refine Below.setCell ?_ (by first | omega | (simp; done) | (simp; omega)) _ | with_reducible refine Below.alloc ?_ (by first | omega | (simp; done) | (simp; omega)) _ | with_reducible refine Below.drew ?_ | with_reducible refine below_drewN ?_ _ | exact Below.refl _ _ | assumption | refine Below.drew ?_ | refine below_drewN ?_ _ | refine Below.alloc ?_ (by first | omega | (simp; done) | (simp; omega)) _ | refine Below.setCell ?_ (by first | omega | (simp; done) | (simp; omega)) _))⟩
    rw [show invertF x ⟨ek, (k : Int), ec, ev, ⟨ns, nf, nl, na, ng⟩⟩ = ⟨ek, (k : Int), ec, y, ⟨ns, nf, nl, na, ng⟩⟩ from by unfold invertF; rw [if_neg KN1.out, if_neg KN2.out, if_neg KN3.out, if_pos HK4.out]; dsimp only; rw [Int.toNat_natCast, HFD.out]]
    rw [if_neg (by have h1 := KN1.out; have h2 := KN3.out; omega), if_neg KN2.out, if_pos HK4.out] at hff; dsimp only [GEdit.cs]; have hn := hff.2; injection hn with n1 n2 n3 n4 n5; rw [n1, n2, n3, n4, n5]
  have KN4 := hide k4
  rw [if_neg (by omega), if_neg (by omega), if_neg (by omega)] at hff
  by_cases k5 : ek = 5
  rotate_left
  ·
    rw [if_neg k5] at hff; exact hff.elim
  rw [if_pos k5] at hff
  have hr := HRG.out; unfold RangeOk at hr; rw [if_pos k5] at hr
  obtain ⟨r1, r2, -⟩ := hr
  have i1 := inB_iff.1 r1
  obtain ⟨k, rfl⟩ : ∃ k : Nat, et = (k : Int) := ⟨et.toNat, by dsimp only at i1; omega⟩
  have hlt : k < x.fMixer.fStrips.length := by dsimp only at i1; omega
  have hgk := List.getElem?_eq_getElem hlt
  generalize x.fMixer.fStrips[k] = y at hgk
  dsimp only at r2
  rw [sendsAt_of hgk] at r2
  have i2 := inB_iff.1 r2
  obtain ⟨j, rfl⟩ : ∃ j : Nat, ec = (j : Int) := ⟨ec.toNat, by omega⟩
  have hjl : j < y.fSends.length := by omega
  have hgj := List.getElem?_eq_getElem hjl
  generalize y.fSends[j] = z at hgj
  have hsd : (sendsAt x (k : Int)).getD j ⟨0, 0⟩ = z := by rw [sendsAt_of hgk, List.getD_eq_getElem?_getD, hgj]; rfl
  have HSD := hide hsd; clear hsd r1 r2
  obtain ⟨b1, off, cs1, hA, hb1, hcs, hcell⟩ := HX5.out k y hgk
  subst hA
  have HBr := hide (Below.refl w.heap.size w)
  obtain ⟨u2, rfl, hRY2⟩ := GStrip.rd_open (show T.rds _ _ _ by simpa only [GStrip.t, T.rd] using hcs)
  have d0 := (HBr.out.cell hb1).trans (hcell 0 (.string y.fName) rfl)
  have d1 := (HBr.out.cell hb1).trans (hcell 1 (.int .i64 y.fLatency) rfl)
  have d2 := (HBr.out.cell hb1).trans (hcell 2 (u2) rfl)
  rw [show off + (k * 3 + 0) = off + k * 3 by omega] at d0
  rw [show off + (k * 3 + 1) = off + k * 3 + 1 by omega] at d1
  rw [show off + (k * 3 + 2) = off + k * 3 + 2 by omega] at d2
  have RY2 := hide (T.rd_below hRY2 HBr.out); clear hRY2
  clear hcs hcell
  obtain ⟨ua2, uc2, rfl, ul2, um2, ux2⟩ := T.rd_openG RY2.out
  obtain ⟨b2, of2, cs2, hA2, hb2, hcs2, hcell2⟩ := ux2 j z hgj
  subst hA2
  obtain rfl := GSend.rd_open (show T.rds _ _ _ by simpa only [GSend.t, T.rd] using hcs2)
  have e0 := (HBr.out.cell hb2).trans (hcell2 0 (.int .i64 z.fTo) rfl)
  have e1 := (HBr.out.cell hb2).trans (hcell2 1 (.int .i64 z.fGain) rfl)
  rw [show of2 + (j * 2 + 0) = of2 + j * 2 by omega] at e0
  rw [show of2 + (j * 2 + 1) = of2 + j * 2 + 1 by omega] at e1
  clear hcs2 hcell2
  clear ux2 HBr
  have hi0 : (0 : Int) ≤ (k : Int) := by omega
  have hi1 : (k : Int) < (x.fMixer.fStrips.length : Int) := by dsimp only at i1; omega
  have hi2 : (0 : Int) ≤ (j : Int) := by omega
  have hi3 : (j : Int) < (y.fSends.length : Int) := by omega
  have p5 : w.cell? ⟨b, o + 5, none⟩ = some (.slice (some ⟨b1, off, none⟩) x.fMixer.fStrips.length vc5) := HCC.out 5 _ rfl
  clear HCC
  have q1 : (ek == 1) = false := beqI_f k1; have q2 : (ek == 2) = false := beqI_f k2; have q3 : (ek == 3) = false := beqI_f k3; have q4 : (ek == 4) = false := beqI_f k4
  clear k1 k2 k3 k4 k5 i1 i2
  have c0 : w.cell? ⟨b', o', none⟩ = some (.int .i64 ek) := hc' 0 _ rfl
  have c1 : w.cell? ⟨b', o' + 1, none⟩ = some (.int .i64 (k : Int)) := hc' 1 _ rfl
  have c2 : w.cell? ⟨b', o' + 2, none⟩ = some (.int .i64 (j : Int)) := hc' 2 _ rfl
  have HA1 := hide (show Below w.heap.size w (w.alloc (.cells #[.int .i64 0, .int .i64 0, .int .i64 0, .int .i64 0, .int .i64 0, .int .i64 0, .int .i64 0, .int .i64 0, .int .i64 0] 41)) from (Below.refl _ _).alloc (Nat.le_refl _) _)
  have HBX := hide (show Below w.heap.size w ((w.alloc (.cells #[.int .i64 0, .int .i64 0, .int .i64 0, .int .i64 0, .int .i64 0, .int .i64 0, .int .i64 0, .int .i64 0, .int .i64 0] 41)).alloc (.cells #[.int .i64 ek, .int .i64 (k : Int), .int .i64 (j : Int), .int .i64 0, .int .i64 0, .int .i64 0, .int .i64 0, .int .i64 0, .int .i64 0] 41)) from HA1.out.alloc HA1.out.size _)
  have HO := hide (Bk.born1' w (.cells #[.int .i64 0, .int .i64 0, .int .i64 0, .int .i64 0, .int .i64 0, .int .i64 0, .int .i64 0, .int .i64 0, .int .i64 0] 41) 41 #[.int .i64 ek, .int .i64 (k : Int), .int .i64 (j : Int), .int .i64 0, .int .i64 0, .int .i64 0, .int .i64 0, .int .i64 0, .int .i64 0]); have HR := hide ((Bk.born w 41 #[.int .i64 0, .int .i64 0, .int .i64 0, .int .i64 0, .int .i64 0, .int .i64 0, .int .i64 0, .int .i64 0, .int .i64 0]).alloc (.cells #[.int .i64 ek, .int .i64 (k : Int), .int .i64 (j : Int), .int .i64 0, .int .i64 0, .int .i64 0, .int .i64 0, .int .i64 0, .int .i64 0] 41))
  have a0 := (HA1.out.cell hlt').trans c0
  have a1 := (HA1.out.cell hlt').trans c1
  have a2 := (HA1.out.cell hlt').trans c2
  go_enter Tryz.func59, Tryz.ntmps59
  go_wp2_with fail
  go_region_held3 (fun w' => w'.cell? ⟨b', o', none⟩ = some (.int .i64 ek) ∧ w'.cell? ⟨b', o' + 1, none⟩ = some (.int .i64 (k : Int)) ∧ w'.cell? ⟨b', o' + 2, none⟩ = some (.int .i64 (j : Int))) ((((try simp only [World.cell?_drew])); first | with_reducible exact ⟨a0, a1, a2⟩ | exact ⟨(World.cell?_alloc_lt _ _ _ (Nat.lt_of_lt_of_le hlt' HA1.out.size)).trans a0, (World.cell?_alloc_lt _ _ _ (Nat.lt_of_lt_of_le hlt' HA1.out.size)).trans a1, (World.cell?_alloc_lt _ _ _ (Nat.lt_of_lt_of_le hlt' HA1.out.size)).trans a2⟩)) (fail)
  go_wp2
  have HB2 := hide (show Below w.heap.size w (World.drew ((w.alloc (.cells #[.int .i64 0, .int .i64 0, .int .i64 0, .int .i64 0, .int .i64 0, .int .i64 0, .int .i64 0, .int .i64 0, .int .i64 0] 41)).alloc (.cells #[.int .i64 ek, .int .i64 (k : Int), .int .i64 (j : Int), .int .i64 0, .int .i64 0, .int .i64 0, .int .i64 0, .int .i64 0, .int .i64 0] 41))) from ((HA1.out.alloc HA1.out.size _)).drew)
  have HCC : Sec (Bk (World.drew ((w.alloc (.cells #[.int .i64 0, .int .i64 0, .int .i64 0, .int .i64 0, .int .i64 0, .int .i64 0, .int .i64 0, .int .i64 0, .int .i64 0] 41)).alloc (.cells #[.int .i64 ek, .int .i64 (k : Int), .int .i64 (j : Int), .int .i64 0, .int .i64 0, .int .i64 0, .int .i64 0, .int .i64 0, .int .i64 0] 41))) (w.heap.size + 1) 41 #[.int .i64 ek, .int .i64 (k : Int), .int .i64 (j : Int), .int .i64 0, .int .i64 0, .int .i64 0, .int .i64 0, .int .i64 0, .int .i64 0]) := hide (Bk.born1' w (.cells #[.int .i64 0, .int .i64 0, .int .i64 0, .int .i64 0, .int .i64 0, .int .i64 0, .int .i64 0, .int .i64 0, .int .i64 0] 41) 41 #[.int .i64 ek, .int .i64 (k : Int), .int .i64 (j : Int), .int .i64 0, .int .i64 0, .int .i64 0, .int .i64 0, .int .i64 0, .int .i64 0])
  have HRX : Sec (Bk (World.drew ((w.alloc (.cells #[.int .i64 0, .int .i64 0, .int .i64 0, .int .i64 0, .int .i64 0, .int .i64 0, .int .i64 0, .int .i64 0, .int .i64 0] 41)).alloc (.cells #[.int .i64 ek, .int .i64 (k : Int), .int .i64 (j : Int), .int .i64 0, .int .i64 0, .int .i64 0, .int .i64 0, .int .i64 0, .int .i64 0] 41))) w.heap.size 41 #[.int .i64 0, .int .i64 0, .int .i64 0, .int .i64 0, .int .i64 0, .int .i64 0, .int .i64 0, .int .i64 0, .int .i64 0]) := hide ((Bk.born w 41 #[.int .i64 0, .int .i64 0, .int .i64 0, .int .i64 0, .int .i64 0, .int .i64 0, .int .i64 0, .int .i64 0, .int .i64 0]).alloc (.cells #[.int .i64 ek, .int .i64 (k : Int), .int .i64 (j : Int), .int .i64 0, .int .i64 0, .int .i64 0, .int .i64 0, .int .i64 0, .int .i64 0] 41))
  clear a0 a1 a2 HO HR HBX
  generalize hW4 : World.drew ((w.alloc (.cells #[.int .i64 0, .int .i64 0, .int .i64 0, .int .i64 0, .int .i64 0, .int .i64 0, .int .i64 0, .int .i64 0, .int .i64 0] 41)).alloc (.cells #[.int .i64 ek, .int .i64 (k : Int), .int .i64 (j : Int), .int .i64 0, .int .i64 0, .int .i64 0, .int .i64 0, .int .i64 0, .int .i64 0] 41)) = W4 at *
  clear hW4
  have kcc := HCC.out.cell; have fcc := HCC.out.free; have lcc := HCC.out.lt; have kr := HRX.out.cell; have fr := HRX.out.free; have lr := HRX.out.lt
  have nz1 : ¬ w.heap.size = w.heap.size + 1 := by omega
  have nz2 : ¬ w.heap.size + 1 = w.heap.size := by omega
  have a1 := (HB2.out.cell hlt').trans c1
  have a2 := (HB2.out.cell hlt').trans c2
  have lb' := Nat.lt_of_lt_of_le hlt' HB2.out.size; have lb := Nat.lt_of_lt_of_le HL.out HB2.out.size
  have m0 := (HB2.out.cell hb1).trans d2; have m1 := (HB2.out.cell hb2).trans e1; have p5' := (HB2.out.cell HL.out).trans p5; have lb1 := Nat.lt_of_lt_of_le hb1 HB2.out.size; have lb2 := Nat.lt_of_lt_of_le hb2 HB2.out.size
  refine wp_region_still_tail 20 (by kernel_rfl) (by kernel_rfl) ?_
  simp only [List.take_succ_cons, List.take_zero, List.drop_succ_cons, List.drop_zero]
  change wpStill _ _ (World.drew W4) (fun a' => wpList _ _ _ _ a' (World.drew W4)) _ _
  repeat still_step
  refine wpStill_nil ?_
  clear m0 m1 p5' a1 a2
  go_wp2
  refine bodyPost_ret (v := .agg #[.int .i64 ek, .int .i64 (k : Int), .int .i64 (j : Int), .int .i64 z.fGain, .int .i64 0, .int .i64 0, .int .i64 0, .int .i64 0, .int .i64 0]) (by simp [results, Tryz.results59, go_sem, kr, fr, lr, nz1, nz2]) rfl ?_
  have hb := HB2.out
  refine ⟨?_, (by repeat (first | with_reducible exact Below.refl _ _ | with_reducible assumption | with_reducible refine Below.setCell ?_ (by first | omega | (simp; done) | (simp; omega)) _ | with_reducible refine Below.alloc ?_ (by first | omega | (simp; done) | (simp; omega)) _ | with_reducible refine Below.drew ?_ | with_reducible refine below_drewN ?_ _ | exact Below.refl _ _ | assumption | refine Below.drew ?_ | refine below_drewN ?_ _ | refine Below.alloc ?_ (by first | omega | (simp; done) | (simp; omega)) _ | refine Below.setCell ?_ (by first | omega | (simp; done) | (simp; omega)) _))⟩
  rw [show invertF x ⟨ek, (k : Int), (j : Int), ev, ⟨ns, nf, nl, na, ng⟩⟩ = ⟨ek, (k : Int), (j : Int), z.fGain, ⟨ns, nf, nl, na, ng⟩⟩ from by unfold invertF; rw [if_neg KN1.out, if_neg KN2.out, if_neg KN3.out, if_neg KN4.out]; dsimp only; rw [Int.toNat_natCast, HSD.out]]
  dsimp only [GEdit.cs]; injection hff with n1 n2 n3 n4 n5; rw [n1, n2, n3, n4, n5]
end Go.Proofs.YtgmgjhdckepmmaaGreat
