/- Contract: the program's ApplyEdits. Contract: the reference's ApplyEdits. -/
import Derived.Test.YtgmgjhdckepmmaaGreatQBbExactApplyEdits
import Derived.Test.YtgmgjhdckepmmaaGreatQApExactApplyEdits
import Derived.Deep.RegionHeld3
import Derived.Test.YtgmgjhdckepmmaaGreatQBgExactApplyEdits
set_option linter.unusedVariables false
set_option linter.unusedSimpArgs false
section
namespace Go.Proofs.YtgmgjhdckepmmaaGreat
open Go.RowKit
theorem applyF_small {s : GSession} {e : GEdit} (h : s.small) (hc : (applyF s e).2 = 0) : (applyF s e).1.small ∧ SessionOk (applyF s e).1 := by
  obtain ⟨h1, _, _, _, h5, h6⟩ := applyF_ok hc
  rw [h6]
  exact ⟨doE_small h h1, h5⟩
theorem runE_step {s : GSession} {l : List GEdit} {k : Nat} {e : GEdit} (hk : l[k]? = some e) (hc : (applyF s e).2 = 0) : runE s (l.drop k) k = runE (applyF s e).1 (l.drop (k + 1)) (k + 1) := by
  have hlt := (List.getElem?_eq_some_iff.1 hk).1
  rw [List.drop_eq_getElem_cons hlt, (List.getElem?_eq_some_iff.1 hk).2]
  simp only [runE]
  rw [if_pos hc]
theorem runE_stop {s : GSession} {l : List GEdit} {k : Nat} {e : GEdit} (hk : l[k]? = some e) (hc : ¬ (applyF s e).2 = 0) : runE s (l.drop k) k = (noSession, (k : Int), (applyF s e).2) := by
  have hlt := (List.getElem?_eq_some_iff.1 hk).1
  rw [List.drop_eq_getElem_cons hlt, (List.getElem?_eq_some_iff.1 hk).2]
  simp only [runE]
  rw [if_neg hc]
theorem runE_end {s : GSession} {l : List GEdit} {k : Nat} (hk : k = l.length) : runE s (l.drop k) k = (s, (l.length : Int), 0) := by
  subst hk
  rw [List.drop_length]; rfl
theorem applyEs_bad {s : GSession} {l : List GEdit} (h : ¬ SessionOk s) : applyEs s l = (noSession, 0, 1) := by
  unfold applyEs
  rw [if_neg (by rw [tf_no h]; simp)]
theorem applyEs_long {s : GSession} {l : List GEdit} (h : SessionOk s) (hl : ¬ l.length ≤ 40) : applyEs s l = (noSession, 0, 2) := by
  unfold applyEs
  rw [if_pos (tf_yes h), if_neg hl]
theorem applyEs_run {s : GSession} {l : List GEdit} (h : SessionOk s) (hl : l.length ≤ 40) : applyEs s l = runE s l 0 := by
  unfold applyEs
  rw [if_pos (tf_yes h), if_pos hl]
set_option maxHeartbeats 1000000 in
set_option maxRecDepth 100000 in
theorem c_iApplyEdits (x : GSession) (cs : List Value) (v : Value) (l : List GEdit) (w : World) (hs : x.small) (hl : T.rd w (T.sl 41 9 (l.map GEdit.t)) [v]) (h : T.rds w x.fs cs) : Calls Tryz.prog 11 #[.agg cs.toArray, v] w fun e w' => ∃ v1 v2 v3 v4 v5 F, e = .returned (.tuple #[.agg #[.int .i64 (applyEs x l).1.fLength, v1, v2, v3, v4, v5], .int .i64 (applyEs x l).2.1, .int .i64 (applyEs x l).2.2]) ∧ Nw w w' (applyEs x l).1.fs F [.int .i64 (applyEs x l).1.fLength, v1, v2, v3, v4, v5] := by
  obtain ⟨v1, v2, v3, v4, v5, rfl, h1, h2, h3, h4, h5⟩ := GSession.rd_open h
  clear h
  have R1 := hide h1; obtain ⟨va1, vc1, rfl, vl1, vm1, vx1⟩ := T.rd_openG h1
  have HX1 := hide vx1; clear vx1 h1
  have R2 := hide h2; obtain ⟨va2, vc2, rfl, vl2, vm2, vx2⟩ := T.rd_openG h2
  have HX2 := hide vx2; clear vx2 h2
  have h3i := T.rd_ints.1 h3; obtain ⟨va3, vc3, rfl, vl3, vm3, vx3⟩ := h3i.open_
  have R3 := hide h3i; have HX3 := hide vx3; clear vx3 h3 h3i
  have R4 := hide h4; obtain ⟨va4, vc4, rfl, vl4, vm4, vx4⟩ := T.rd_openG h4
  have HX4 := hide vx4; clear vx4 h4
  have R5 := hide h5; obtain ⟨va5, vc5, rfl, vl5, vm5, vx5⟩ := T.rd_openG h5
  have HX5 := hide vx5; clear vx5 h5
  have HB0 := hide (show Below w.heap.size w (w.alloc (.cells #[.int .i64 x.fLength, (.slice va1 x.fSources.length vc1), (.slice va2 x.fTracks.length vc2), (.slice va3 x.fFeeds.length vc3), (.slice va4 x.fEffects.length vc4), (.slice va5 x.fMixer.fStrips.length vc5)] 32)) from (Below.refl _ _).alloc (Nat.le_refl _) _)
  have HK0 := hide (Bk.born w 32 #[.int .i64 x.fLength, (.slice va1 x.fSources.length vc1), (.slice va2 x.fTracks.length vc2), (.slice va3 x.fFeeds.length vc3), (.slice va4 x.fEffects.length vc4), (.slice va5 x.fMixer.fStrips.length vc5)])
  have HSM := hide hs; clear hs
  obtain ⟨Av, cv, rfl, hlv, hcv, hxv⟩ := T.rd_openG hl; have HXL := hide hxv; clear hxv hl
  have GX := hide (show ∀ w', Below w.heap.size w w' → T.rds w' x.fs [.int .i64 x.fLength, (.slice va1 x.fSources.length vc1), (.slice va2 x.fTracks.length vc2), (.slice va3 x.fFeeds.length vc3), (.slice va4 x.fEffects.length vc4), (.slice va5 x.fMixer.fStrips.length vc5)] from fun w' hb => GSession.rd_mk (T.rd_below R1.out hb) (T.rd_below R2.out hb) (T.rd_ints.2 (Rd.below R3.out hb)) (T.rd_below R4.out hb) (T.rd_below R5.out hb))
  have IS := hide (fun (W : World) (hb : Below w.heap.size w W) => c_isSession x _ W HSM.out (GX.out W hb))
  have IC := hide (fun (W : World) (hb : Below w.heap.size w W) => c_copySession x _ W HSM.out (GX.out W hb))
  have HBa := hide (HB0.out.alloc (by simp) (.cells #[.int .i64 0, .slice none 0 0, .slice none 0 0, .slice none 0 0, .slice none 0 0, .slice none 0 0] 32))
  have HP := hide (HK0.out.alloc (.cells #[.int .i64 0, .slice none 0 0, .slice none 0 0, .slice none 0 0, .slice none 0 0, .slice none 0 0] 32)); have HR := hide (Bk.born1' w (.cells #[.int .i64 x.fLength, (.slice va1 x.fSources.length vc1), (.slice va2 x.fTracks.length vc2), (.slice va3 x.fFeeds.length vc3), (.slice va4 x.fEffects.length vc4), (.slice va5 x.fMixer.fStrips.length vc5)] 32) 32 #[.int .i64 0, .slice none 0 0, .slice none 0 0, .slice none 0 0, .slice none 0 0, .slice none 0 0])
  clear HB0 HK0
  obtain ⟨W, hW⟩ : ∃ W', W' = ((w.alloc (.cells #[.int .i64 x.fLength, (.slice va1 x.fSources.length vc1), (.slice va2 x.fTracks.length vc2), (.slice va3 x.fFeeds.length vc3), (.slice va4 x.fEffects.length vc4), (.slice va5 x.fMixer.fStrips.length vc5)] 32)).alloc (.cells #[.int .i64 0, .slice none 0 0, .slice none 0 0, .slice none 0 0, .slice none 0 0, .slice none 0 0] 32)) := ⟨_, rfl⟩
  rw [← hW] at HBa HP HR
  have HW := hide hW; clear hW
  have E0 := hide (@applyEs_bad x l); have E1 := hide (@applyEs_long x l); have E2 := hide (@applyEs_run x l)
  generalize hAE : applyEs x l = AE at *; have HAE := hide hAE; clear hAE
  go_enter Tryz.func11, Tryz.ntmps11
  have HB := HBa; clear HBa
  go_wp2_with fail
  rw [← HW.out]
  refine (IS.out _ HB.out).mono ?_; rintro e wE ⟨rfl, hb⟩
  have HB1 := hide (bthen HB.out HB.out.size hb); have HP1 := hide (HP.out.below hb HP.out.lt); have HR1 := hide (HR.out.below hb HR.out.lt); clear hb HB HP HR
  have kp := HP1.out.cell; have kr := HR1.out.cell; have fr := HR1.out.free; have lr := HR1.out.lt
  by_cases hS : SessionOk x
  rotate_left
  ·
    rw [tf_no hS]; have HA := hide (E0.out hS); clear hS
    go_wp2
    refine bodyPost_ret (v := .tuple #[.agg #[.int .i64 0, .slice none 0 0, .slice none 0 0, .slice none 0 0, .slice none 0 0, .slice none 0 0], .int .i64 0, .int .i64 1]) (by simp [results, Tryz.results11, go_sem, kr, fr, lr]) rfl ?_
    rw [HA.out]; exact ⟨_, _, _, _, _, [], rfl, none_ows _, List.nodup_nil, by simp, ((((((HB1.out.setCell (by first | (simp; done) | (simp; omega) | omega) _).setCell (by first | (simp; done) | (simp; omega) | omega) _).setCell (by first | (simp; done) | (simp; omega) | omega) _).setCell (by first | (simp; done) | (simp; omega) | omega) _).setCell (by first | (simp; done) | (simp; omega) | omega) _).setCell (by first | (simp; done) | (simp; omega) | omega) _)⟩
  rw [tf_yes hS]; have HS := hide hS; clear hS
  by_cases hn : l.length ≤ 40
  rotate_left
  ·
    have HA := hide (E1.out HS.out hn)
    have hn' : (40 : Int) < (l.length : Int) := by omega
    go_wp2
    refine bodyPost_ret (v := .tuple #[.agg #[.int .i64 0, .slice none 0 0, .slice none 0 0, .slice none 0 0, .slice none 0 0, .slice none 0 0], .int .i64 0, .int .i64 2]) (by simp [results, Tryz.results11, go_sem, kr, fr, lr]) rfl ?_
    rw [HA.out]; exact ⟨_, _, _, _, _, [], rfl, none_ows _, List.nodup_nil, by simp, ((((((HB1.out.setCell (by first | (simp; done) | (simp; omega) | omega) _).setCell (by first | (simp; done) | (simp; omega) | omega) _).setCell (by first | (simp; done) | (simp; omega) | omega) _).setCell (by first | (simp; done) | (simp; omega) | omega) _).setCell (by first | (simp; done) | (simp; omega) | omega) _).setCell (by first | (simp; done) | (simp; omega) | omega) _)⟩
  have HA := hide (E2.out HS.out hn)
  have hn' : ¬ (40 : Int) < (l.length : Int) := by omega
  go_wp2_with fail
  refine (IC.out _ HB1.out).mono ?_; rintro e wC ⟨v1, v2, v3, v4, v5, F, rfl, hN⟩
  have hb := hN.below
  obtain ⟨⟨A1, L1, C1, rfl⟩, ⟨A2, L2, C2, rfl⟩, ⟨A3, L3, C3, rfl⟩, ⟨A4, L4, C4, rfl⟩, ⟨A5, L5, C5, rfl⟩⟩ := GSession.sl5 (T.ows_rds _ _ _ hN.ows)
  have HN := hide hN; clear hN
  have HB2 := hide (bthen HB1.out HB1.out.size hb); have HR2 := hide (HR1.out.below hb HR1.out.lt); have hs2 := hb.size; clear hb kp kr fr lr HP1
  go_wp2
  go_loopw [24] (fun i wr => ∃ (k : Nat) (y : GSession) (A1 : Option Addr) (L1 C1 : Nat) (A2 : Option Addr) (L2 C2 : Nat) (A3 : Option Addr) (L3 C3 : Nat) (A4 : Option Addr) (L4 C4 : Nat) (A5 : Option Addr) (L5 C5 : Nat) (G : List Nat), k ≤ l.length ∧ i = .int .i64 k ∧ Bk wr wC.heap.size 32 #[.int .i64 y.fLength, .slice A1 L1 C1, .slice A2 L2 C2, .slice A3 L3 C3, .slice A4 L4 C4, .slice A5 L5 C5] ∧ T.ows wr y.fs G [.int .i64 y.fLength, .slice A1 L1 C1, .slice A2 L2 C2, .slice A3 L3 C3, .slice A4 L4 C4, .slice A5 L5 C5] ∧ G.Nodup ∧ (∀ b ∈ G, w.heap.size + 2 ≤ b ∧ b ≠ wC.heap.size) ∧ y.small ∧ SessionOk y ∧ runE x l 0 = runE y (l.drop k) k ∧ Below w.heap.size w wr ∧ Bk wr (w.heap.size + 1) 32 #[.int .i64 0, .slice none 0 0, .slice none 0 0, .slice none 0 0, .slice none 0 0, .slice none 0 0]) (fun i _ => l.length - (intOf i).toNat)
  case atStart => exact ⟨0, x, A1, L1, C1, A2, L2, C2, A3, L3, C3, A4, L4, C4, A5, L5, C5, F, Nat.zero_le _, rfl, Bk.born _ _ _, T.ows_all HN.out.ows ((Below.refl _ _).alloc (Nat.le_refl _) _), HN.out.nodup, fun b hb => ⟨by have h1 := HN.out.lo b hb; have h2 := HR1.out.lt; omega, fun e => by have h1 := T.ows_lt _ _ _ HN.out.ows b hb; omega⟩, HSM.out, HS.out, rfl, HB2.out.alloc HB2.out.size _, HR2.out.alloc _⟩
  case round =>
    clear HN HR2
    obtain ⟨k, y, A1, L1, C1, A2, L2, C2, A3, L3, C3, A4, L4, C4, A5, L5, C5, G, hk, rfl, hbk, how, hnd, hlo, hsm, hok, hrun, hbw, hbr⟩ := hrel
    have HBK := hide hbk; have HOW := hide how; have HND := hide hnd; have HLO := hide hlo; have HYS := hide hsm; have HYO := hide hok; have HRUN := hide hrun; have HBW := hide hbw; have HBR := hide hbr; clear hbk how hnd hlo hsm hok hrun hbw hbr
    have kk := HBK.out.cell; have kf := HBK.out.free; have kl := HBK.out.lt; have rl := HBR.out.lt; have rc := HBR.out.cell; have rf := HBR.out.free
    by_cases hlt : k < l.length
    rotate_left
    ·
      obtain rfl : k = l.length := by omega
      have HE := hide (HA.out.trans (HRUN.out.trans (runE_end rfl)))
      have nn1 : ¬ wC.heap.size = w.heap.size + 1 := by have h1 := HR1.out.lt; omega
      have nn2 : ¬ w.heap.size + 1 = wC.heap.size := fun e => nn1 e.symm
      clear HXL HX1 HX2 HX3 HX4 HX5
      go_wp2_with fail
      go_region_held3 (fun w' => ∀ i, w'.cell? ⟨wC.heap.size, i, none⟩ = #[.int .i64 y.fLength, .slice A1 L1 C1, .slice A2 L2 C2, .slice A3 L3 C3, .slice A4 L4 C4, .slice A5 L5 C5][i]?) ((((try simp only [World.cell?_drew])); first | with_reducible exact kk | exact ((((((HBK.out.far nn1 _).far nn1 _).far nn1 _).far nn1 _).far nn1 _).far nn1 _).cell)) ((go_at_call 49; refine (c_sizeEdit _ _ _ _ (by omega)).mono ?_; rintro e _ ⟨rfl, rfl⟩))
      go_wp2
      refine bodyPost_ret (v := .tuple #[.agg #[.int .i64 y.fLength, .slice A1 L1 C1, .slice A2 L2 C2, .slice A3 L3 C3, .slice A4 L4 C4, .slice A5 L5 C5], .int .i64 (l.length : Int), .int .i64 0]) (by simp [results, Tryz.results11, go_sem, rc, rf, rl]) rfl ?_
      have hz : w.heap.size + 1 ∉ G := fun hm => by have := (HLO.out _ hm).1; omega
      rw [HE.out]; refine ⟨_, _, _, _, _, G, rfl, ?_, HND.out, fun b hb => by have := (HLO.out b hb).1; omega, ?_⟩
      · dsimp only; exact T.ows_all (T.ows_far (T.ows_far (T.ows_far (T.ows_far (T.ows_far (T.ows_far HOW.out hz 0 (.int .i64 y.fLength)) hz 1 (.slice A1 L1 C1)) hz 2 (.slice A2 L2 C2)) hz 3 (.slice A3 L3 C3)) hz 4 (.slice A4 L4 C4)) hz 5 (.slice A5 L5 C5)) (Below.refl _ _).drew
      · exact (Below.setCell (p := ⟨w.heap.size + 1, 5, none⟩) (Below.setCell (p := ⟨w.heap.size + 1, 4, none⟩) (Below.setCell (p := ⟨w.heap.size + 1, 3, none⟩) (Below.setCell (p := ⟨w.heap.size + 1, 2, none⟩) (Below.setCell (p := ⟨w.heap.size + 1, 1, none⟩) (Below.setCell (p := ⟨w.heap.size + 1, 0, none⟩) HBW.out (Nat.le_succ _) (.int .i64 y.fLength)) (Nat.le_succ _) (.slice A1 L1 C1)) (Nat.le_succ _) (.slice A2 L2 C2)) (Nat.le_succ _) (.slice A3 L3 C3)) (Nat.le_succ _) (.slice A4 L4 C4)) (Nat.le_succ _) (.slice A5 L5 C5)).drew
    have hgk := List.getElem?_eq_getElem hlt
    obtain ⟨b1, off, cs1, hA, hb1, hcs, hcell⟩ := HXL.out k l[k] hgk
    subst hA
    generalize l[k] = ed at *
    have HG := hide hgk; clear hgk
    obtain rfl := GEdit.rd_open (show T.rds _ _ _ by simpa only [GEdit.t, T.rd] using hcs)
    have d0 := (HBW.out.cell hb1).trans (hcell 0 (.int .i64 ed.fKind) rfl)
    have d1 := (HBW.out.cell hb1).trans (hcell 1 (.int .i64 ed.fTrack) rfl)
    have d2 := (HBW.out.cell hb1).trans (hcell 2 (.int .i64 ed.fClip) rfl)
    have d3 := (HBW.out.cell hb1).trans (hcell 3 (.int .i64 ed.fValue) rfl)
    have d4 := (HBW.out.cell hb1).trans (hcell 4 (.int .i64 ed.fNew.fSource) rfl)
    have d5 := (HBW.out.cell hb1).trans (hcell 5 (.int .i64 ed.fNew.fFrom) rfl)
    have d6 := (HBW.out.cell hb1).trans (hcell 6 (.int .i64 ed.fNew.fLength) rfl)
    have d7 := (HBW.out.cell hb1).trans (hcell 7 (.int .i64 ed.fNew.fAt) rfl)
    have d8 := (HBW.out.cell hb1).trans (hcell 8 (.int .i64 ed.fNew.fGain) rfl)
    rw [show off + (k * 9 + 0) = off + k * 9 by omega] at d0
    rw [show off + (k * 9 + 1) = off + k * 9 + 1 by omega] at d1
    rw [show off + (k * 9 + 2) = off + k * 9 + 2 by omega] at d2
    rw [show off + (k * 9 + 3) = off + k * 9 + 3 by omega] at d3
    rw [show off + (k * 9 + 4) = off + k * 9 + 4 by omega] at d4
    rw [show off + (k * 9 + 5) = off + k * 9 + 5 by omega] at d5
    rw [show off + (k * 9 + 6) = off + k * 9 + 6 by omega] at d6
    rw [show off + (k * 9 + 7) = off + k * 9 + 7 by omega] at d7
    rw [show off + (k * 9 + 8) = off + k * 9 + 8 by omega] at d8
    clear hcs hcell
    have hq1 : b1 < wr.heap.size := Nat.lt_of_lt_of_le hb1 HBW.out.size
    have hbA := hide (show Below wr.heap.size wr (wr.alloc (.cells #[.int .i64 ed.fKind, .int .i64 ed.fTrack, .int .i64 ed.fClip, .int .i64 ed.fValue, .int .i64 ed.fNew.fSource, .int .i64 ed.fNew.fFrom, .int .i64 ed.fNew.fLength, .int .i64 ed.fNew.fAt, .int .i64 ed.fNew.fGain] 41)) from (Below.refl _ _).alloc (Nat.le_refl _) _)
    have OK := hide (@applyF_small y ed); have R1' := hide (runE_step (s := y) HG.out); have R2' := hide (runE_stop (s := y) HG.out)
    go_wp2_with fail
    refine (c_apply y _ ed _ HYS.out HYO.out (T.rds_below' (T.ows_rds _ _ _ HOW.out) hbA.out)).mono ?_; rintro e w2 ⟨v1, v2, v3, v4, v5, F2, rfl, hN⟩
    have hb := hN.below
    obtain ⟨⟨B1, M1, D1, rfl⟩, ⟨B2, M2, D2, rfl⟩, ⟨B3, M3, D3, rfl⟩, ⟨B4, M4, D4, rfl⟩, ⟨B5, M5, D5, rfl⟩⟩ := GSession.sl5 (T.ows_rds _ _ _ hN.ows)
    have HN := hide hN; clear hN
    generalize applyF y ed = AF at *
    have HBX := hide (bthen hbA.out hbA.out.size hb); clear hb
    have HB3 := hide (bthen HBW.out HBW.out.size HBX.out); have HBK3 := hide (HBK.out.below HBX.out HBK.out.lt); have HBR3 := hide (HBR.out.below HBX.out HBR.out.lt)
    have hs3 := HBX.out.size; have hloF := HN.out.lo; have HLF := hide hloF; clear hloF
    have nn1 : ¬ wC.heap.size = w.heap.size + 1 := by have h1 := HR1.out.lt; omega
    have nn2 : ¬ w.heap.size + 1 = wC.heap.size := fun e => nn1 e.symm
    clear kk kf kl rc rf d0 d1 d2 d3 d4 d5 d6 d7 d8
    have kr := HBR3.out.cell; have fr := HBR3.out.free; have lr := HBR3.out.lt; have kk := HBK3.out.cell; have kf := HBK3.out.free; have kl := HBK3.out.lt
    by_cases hc : AF.2 = 0
    rotate_left
    ·
      have q0 : (AF.2 != 0) = true := bneI_t hc
      have HE := hide (HA.out.trans (HRUN.out.trans (R2'.out hc))); clear hc
      go_wp2
      refine bodyPost_ret (v := .tuple #[.agg #[.int .i64 0, .slice none 0 0, .slice none 0 0, .slice none 0 0, .slice none 0 0, .slice none 0 0], .int .i64 (k : Int), .int .i64 AF.2]) (by simp [results, Tryz.results11, go_sem, kr, fr, lr]) rfl ?_
      rw [HE.out]; refine ⟨_, _, _, _, _, [], rfl, none_ows _, List.nodup_nil, by simp, ?_⟩
      have hfin := (Below.setCell (p := ⟨w.heap.size + 1, 5, none⟩) (Below.setCell (p := ⟨w.heap.size + 1, 4, none⟩) (Below.setCell (p := ⟨w.heap.size + 1, 3, none⟩) (Below.setCell (p := ⟨w.heap.size + 1, 2, none⟩) (Below.setCell (p := ⟨w.heap.size + 1, 1, none⟩) (Below.setCell (p := ⟨w.heap.size + 1, 0, none⟩) HB3.out (Nat.le_succ _) (.int .i64 0)) (Nat.le_succ _) (.slice none 0 0)) (Nat.le_succ _) (.slice none 0 0)) (Nat.le_succ _) (.slice none 0 0)) (Nat.le_succ _) (.slice none 0 0)) (Nat.le_succ _) (.slice none 0 0))
      exact hfin.alloc hfin.size _
    have q0 : (AF.2 != 0) = false := bneI_f hc
    have HE := hide (HRUN.out.trans (R1'.out hc)); have HOK := hide (OK.out HYS.out hc); clear hc
    go_wp2
    go_roundw
    case rel =>
      have hz : wC.heap.size ∉ F2 := fun hm => by have h1 := HLF.out _ hm; have h2 := HBK.out.lt; have h3 := hbA.out.size; omega
      refine ⟨k + 1, AF.1, B1, M1, D1, B2, M2, D2, B3, M3, D3, B4, M4, D4, B5, M5, D5, F2, by omega, by go_num, ?_, ?_, HN.out.nodup, fun b hb => ?_, HOK.out.1, HOK.out.2, HE.out, ?_, ?_⟩
      · have := (((((((HBK3.out.set_ 0 (.int .i64 AF.1.fLength)).set_ 1 (.slice B1 M1 D1)).set_ 2 (.slice B2 M2 D2)).set_ 3 (.slice B3 M3 D3)).set_ 4 (.slice B4 M4 D4)).set_ 5 (.slice B5 M5 D5))).alloc (.cells #[.int .i64 AF.1.fLength, .slice B1 M1 D1, .slice B2 M2 D2, .slice B3 M3 D3, .slice B4 M4 D4, .slice B5 M5 D5] 32); simpa using this
      · exact T.ows_all ((T.ows_far (T.ows_far (T.ows_far (T.ows_far (T.ows_far (T.ows_far HN.out.ows hz 0 (.int .i64 AF.1.fLength)) hz 1 (.slice B1 M1 D1)) hz 2 (.slice B2 M2 D2)) hz 3 (.slice B3 M3 D3)) hz 4 (.slice B4 M4 D4)) hz 5 (.slice B5 M5 D5))) ((Below.refl _ _).alloc (Nat.le_refl _) _)
      · have h1 := HLF.out b hb; have h2 := HBK.out.lt; have h4 := HBR.out.lt; have h3 : (wr.alloc (.cells #[.int .i64 ed.fKind, .int .i64 ed.fTrack, .int .i64 ed.fClip, .int .i64 ed.fValue, .int .i64 ed.fNew.fSource, .int .i64 ed.fNew.fFrom, .int .i64 ed.fNew.fLength, .int .i64 ed.fNew.fAt, .int .i64 ed.fNew.fGain] 41)).heap.size = wr.heap.size + 1 := by simp
        exact ⟨by omega, by omega⟩
      · have hfin := (Below.setCell (p := ⟨wC.heap.size, 5, none⟩) (Below.setCell (p := ⟨wC.heap.size, 4, none⟩) (Below.setCell (p := ⟨wC.heap.size, 3, none⟩) (Below.setCell (p := ⟨wC.heap.size, 2, none⟩) (Below.setCell (p := ⟨wC.heap.size, 1, none⟩) (Below.setCell (p := ⟨wC.heap.size, 0, none⟩) HB3.out (show w.heap.size ≤ wC.heap.size by have h1 := HR1.out.lt; omega) (.int .i64 AF.1.fLength)) (show w.heap.size ≤ wC.heap.size by have h1 := HR1.out.lt; omega) (.slice B1 M1 D1)) (show w.heap.size ≤ wC.heap.size by have h1 := HR1.out.lt; omega) (.slice B2 M2 D2)) (show w.heap.size ≤ wC.heap.size by have h1 := HR1.out.lt; omega) (.slice B3 M3 D3)) (show w.heap.size ≤ wC.heap.size by have h1 := HR1.out.lt; omega) (.slice B4 M4 D4)) (show w.heap.size ≤ wC.heap.size by have h1 := HR1.out.lt; omega) (.slice B5 M5 D5)); exact hfin.alloc hfin.size _
      · exact (((((((HBR3.out.far (p := ⟨wC.heap.size, 0, none⟩) nn2 (.int .i64 AF.1.fLength)).far (p := ⟨wC.heap.size, 1, none⟩) nn2 (.slice B1 M1 D1)).far (p := ⟨wC.heap.size, 2, none⟩) nn2 (.slice B2 M2 D2)).far (p := ⟨wC.heap.size, 3, none⟩) nn2 (.slice B3 M3 D3)).far (p := ⟨wC.heap.size, 4, none⟩) nn2 (.slice B4 M4 D4)).far (p := ⟨wC.heap.size, 5, none⟩) nn2 (.slice B5 M5 D5))).alloc _
    case measure => simp [intOf]; omega
end Go.Proofs.YtgmgjhdckepmmaaGreat
end
section
namespace Go.Proofs.YtgmgjhdckepmmaaGreat
open Go.RowKit
set_option maxHeartbeats 1000000 in
set_option maxRecDepth 100000 in
theorem c_sApplyEdits (x : GSession) (cs : List Value) (v : Value) (l : List GEdit) (w : World) (hs : x.small) (hl : T.rd w (T.sl 41 9 (l.map GEdit.t)) [v]) (h : T.rds w x.fs cs) : Calls Tryz.prog 27 #[.agg cs.toArray, v] w fun e w' => ∃ v1 v2 v3 v4 v5 F, e = .returned (.tuple #[.agg #[.int .i64 (applyEs x l).1.fLength, v1, v2, v3, v4, v5], .int .i64 (applyEs x l).2.1, .int .i64 (applyEs x l).2.2]) ∧ Nw w w' (applyEs x l).1.fs F [.int .i64 (applyEs x l).1.fLength, v1, v2, v3, v4, v5] := by
  obtain ⟨v1, v2, v3, v4, v5, rfl, h1, h2, h3, h4, h5⟩ := GSession.rd_open h
  clear h
  have R1 := hide h1; obtain ⟨va1, vc1, rfl, vl1, vm1, vx1⟩ := T.rd_openG h1
  have HX1 := hide vx1; clear vx1 h1
  have R2 := hide h2; obtain ⟨va2, vc2, rfl, vl2, vm2, vx2⟩ := T.rd_openG h2
  have HX2 := hide vx2; clear vx2 h2
  have h3i := T.rd_ints.1 h3; obtain ⟨va3, vc3, rfl, vl3, vm3, vx3⟩ := h3i.open_
  have R3 := hide h3i; have HX3 := hide vx3; clear vx3 h3 h3i
  have R4 := hide h4; obtain ⟨va4, vc4, rfl, vl4, vm4, vx4⟩ := T.rd_openG h4
  have HX4 := hide vx4; clear vx4 h4
  have R5 := hide h5; obtain ⟨va5, vc5, rfl, vl5, vm5, vx5⟩ := T.rd_openG h5
  have HX5 := hide vx5; clear vx5 h5
  have HB0 := hide (show Below w.heap.size w (w.alloc (.cells #[.int .i64 x.fLength, (.slice va1 x.fSources.length vc1), (.slice va2 x.fTracks.length vc2), (.slice va3 x.fFeeds.length vc3), (.slice va4 x.fEffects.length vc4), (.slice va5 x.fMixer.fStrips.length vc5)] 32)) from (Below.refl _ _).alloc (Nat.le_refl _) _)
  have HK0 := hide (Bk.born w 32 #[.int .i64 x.fLength, (.slice va1 x.fSources.length vc1), (.slice va2 x.fTracks.length vc2), (.slice va3 x.fFeeds.length vc3), (.slice va4 x.fEffects.length vc4), (.slice va5 x.fMixer.fStrips.length vc5)])
  have HSM := hide hs; clear hs
  obtain ⟨Av, cv, rfl, hlv, hcv, hxv⟩ := T.rd_openG hl; have HXL := hide hxv; clear hxv hl
  have GX := hide (show ∀ w', Below w.heap.size w w' → T.rds w' x.fs [.int .i64 x.fLength, (.slice va1 x.fSources.length vc1), (.slice va2 x.fTracks.length vc2), (.slice va3 x.fFeeds.length vc3), (.slice va4 x.fEffects.length vc4), (.slice va5 x.fMixer.fStrips.length vc5)] from fun w' hb => GSession.rd_mk (T.rd_below R1.out hb) (T.rd_below R2.out hb) (T.rd_ints.2 (Rd.below R3.out hb)) (T.rd_below R4.out hb) (T.rd_below R5.out hb))
  have HBa := hide (HB0.out.alloc (by simp) (.cells #[.int .i64 0, .slice none 0 0, .slice none 0 0, .slice none 0 0, .slice none 0 0, .slice none 0 0] 32))
  have HP := hide (HK0.out.alloc (.cells #[.int .i64 0, .slice none 0 0, .slice none 0 0, .slice none 0 0, .slice none 0 0, .slice none 0 0] 32)); have HR := hide (Bk.born1' w (.cells #[.int .i64 x.fLength, (.slice va1 x.fSources.length vc1), (.slice va2 x.fTracks.length vc2), (.slice va3 x.fFeeds.length vc3), (.slice va4 x.fEffects.length vc4), (.slice va5 x.fMixer.fStrips.length vc5)] 32) 32 #[.int .i64 0, .slice none 0 0, .slice none 0 0, .slice none 0 0, .slice none 0 0, .slice none 0 0])
  clear HB0 HK0
  obtain ⟨W, hW⟩ : ∃ W', W' = ((w.alloc (.cells #[.int .i64 x.fLength, (.slice va1 x.fSources.length vc1), (.slice va2 x.fTracks.length vc2), (.slice va3 x.fFeeds.length vc3), (.slice va4 x.fEffects.length vc4), (.slice va5 x.fMixer.fStrips.length vc5)] 32)).alloc (.cells #[.int .i64 0, .slice none 0 0, .slice none 0 0, .slice none 0 0, .slice none 0 0, .slice none 0 0] 32)) := ⟨_, rfl⟩
  rw [← hW] at HBa HP HR
  have HW := hide hW; clear hW
  have HAT := hide (show T.at W x.fs w.heap.size 0 from ⟨HP.out.lt, _, GX.out W HBa.out, fun i u hi => by rw [Nat.zero_add]; exact (HP.out.cell i).trans (by simpa using hi)⟩)
  have E0 := hide (@applyEs_bad x l); have E1 := hide (@applyEs_long x l); have E2 := hide (@applyEs_run x l)
  generalize hAE : applyEs x l = AE at *; have HAE := hide hAE; clear hAE
  go_enter Tryz.func27, Tryz.ntmps27
  go_wp2_with fail
  rw [← HW.out]
  refine (c_l27Ok x w.heap.size 0 _ HSM.out HAT.out).mono ?_; rintro e wE ⟨rfl, hb⟩
  have HB1 := hide (bthen HBa.out HBa.out.size hb); have HR1 := hide (HR.out.below hb HR.out.lt); have HAT1 := hide (T.at_below HAT.out hb); clear hb HBa HR HP HAT
  have kr := HR1.out.cell; have fr := HR1.out.free; have lr := HR1.out.lt
  by_cases hS : SessionOk x
  rotate_left
  ·
    rw [tf_no hS]; have HA := hide (E0.out hS); clear hS
    go_wp2
    refine bodyPost_ret (v := .tuple #[.agg #[.int .i64 0, .slice none 0 0, .slice none 0 0, .slice none 0 0, .slice none 0 0, .slice none 0 0], .int .i64 0, .int .i64 1]) (by simp [results, Tryz.results27, go_sem, kr, fr, lr]) rfl ?_
    rw [HA.out]; exact ⟨_, _, _, _, _, [], rfl, none_ows _, List.nodup_nil, by simp, ((((((HB1.out.setCell (by first | (simp; done) | (simp; omega) | omega) _).setCell (by first | (simp; done) | (simp; omega) | omega) _).setCell (by first | (simp; done) | (simp; omega) | omega) _).setCell (by first | (simp; done) | (simp; omega) | omega) _).setCell (by first | (simp; done) | (simp; omega) | omega) _).setCell (by first | (simp; done) | (simp; omega) | omega) _)⟩
  rw [tf_yes hS]; have HS := hide hS; clear hS
  by_cases hn : l.length ≤ 40
  rotate_left
  ·
    have HA := hide (E1.out HS.out hn)
    have hn' : (40 : Int) < (l.length : Int) := by omega
    go_wp2
    refine bodyPost_ret (v := .tuple #[.agg #[.int .i64 0, .slice none 0 0, .slice none 0 0, .slice none 0 0, .slice none 0 0, .slice none 0 0], .int .i64 0, .int .i64 2]) (by simp [results, Tryz.results27, go_sem, kr, fr, lr]) rfl ?_
    rw [HA.out]; exact ⟨_, _, _, _, _, [], rfl, none_ows _, List.nodup_nil, by simp, ((((((HB1.out.setCell (by first | (simp; done) | (simp; omega) | omega) _).setCell (by first | (simp; done) | (simp; omega) | omega) _).setCell (by first | (simp; done) | (simp; omega) | omega) _).setCell (by first | (simp; done) | (simp; omega) | omega) _).setCell (by first | (simp; done) | (simp; omega) | omega) _).setCell (by first | (simp; done) | (simp; omega) | omega) _)⟩
  have HA := hide (E2.out HS.out hn)
  have hn' : ¬ (40 : Int) < (l.length : Int) := by omega
  go_wp2_with fail
  refine (c_l27Own x w.heap.size 0 _ HSM.out HAT1.out).mono ?_; rintro e wC ⟨v1, v2, v3, v4, v5, F, rfl, hN⟩
  have hb := hN.below
  obtain ⟨⟨A1, L1, C1, rfl⟩, ⟨A2, L2, C2, rfl⟩, ⟨A3, L3, C3, rfl⟩, ⟨A4, L4, C4, rfl⟩, ⟨A5, L5, C5, rfl⟩⟩ := GSession.sl5 (T.ows_rds _ _ _ hN.ows)
  have HN := hide hN; clear hN
  have HB2 := hide (bthen HB1.out HB1.out.size hb); have HR2 := hide (HR1.out.below hb HR1.out.lt); have hs2 := hb.size; clear hb kr fr HAT1
  go_wp2
  go_loopw [8] (fun i wr => ∃ (k : Nat) (y : GSession) (A1 : Option Addr) (L1 C1 : Nat) (A2 : Option Addr) (L2 C2 : Nat) (A3 : Option Addr) (L3 C3 : Nat) (A4 : Option Addr) (L4 C4 : Nat) (A5 : Option Addr) (L5 C5 : Nat) (G : List Nat), k ≤ l.length ∧ i = .int .i64 k ∧ Bk wr wC.heap.size 32 #[.int .i64 y.fLength, .slice A1 L1 C1, .slice A2 L2 C2, .slice A3 L3 C3, .slice A4 L4 C4, .slice A5 L5 C5] ∧ T.ows wr y.fs G [.int .i64 y.fLength, .slice A1 L1 C1, .slice A2 L2 C2, .slice A3 L3 C3, .slice A4 L4 C4, .slice A5 L5 C5] ∧ G.Nodup ∧ (∀ b ∈ G, w.heap.size + 2 ≤ b ∧ b ≠ wC.heap.size) ∧ y.small ∧ SessionOk y ∧ runE x l 0 = runE y (l.drop k) k ∧ Below w.heap.size w wr ∧ Bk wr (w.heap.size + 1) 32 #[.int .i64 0, .slice none 0 0, .slice none 0 0, .slice none 0 0, .slice none 0 0, .slice none 0 0]) (fun i _ => l.length - (intOf i).toNat)
  case atStart => exact ⟨0, x, A1, L1, C1, A2, L2, C2, A3, L3, C3, A4, L4, C4, A5, L5, C5, F, Nat.zero_le _, rfl, Bk.born _ _ _, T.ows_all HN.out.ows ((Below.refl _ _).alloc (Nat.le_refl _) _), HN.out.nodup, fun b hb => ⟨by have h1 := HN.out.lo b hb; have h2 := HR1.out.lt; omega, fun e => by have h1 := T.ows_lt _ _ _ HN.out.ows b hb; omega⟩, HSM.out, HS.out, rfl, HB2.out.alloc HB2.out.size _, HR2.out.alloc _⟩
  case round =>
    clear HN HR2
    obtain ⟨k, y, A1, L1, C1, A2, L2, C2, A3, L3, C3, A4, L4, C4, A5, L5, C5, G, hk, rfl, hbk, how, hnd, hlo, hsm, hok, hrun, hbw, hbr⟩ := hrel
    have HBK := hide hbk; have HOW := hide how; have HND := hide hnd; have HLO := hide hlo; have HYS := hide hsm; have HYO := hide hok; have HRUN := hide hrun; have HBW := hide hbw; have HBR := hide hbr; clear hbk how hnd hlo hsm hok hrun hbw hbr
    have kk := HBK.out.cell; have kf := HBK.out.free; have kl := HBK.out.lt; have rl := HBR.out.lt; have rc := HBR.out.cell; have rf := HBR.out.free
    have nn1 : ¬ wC.heap.size = w.heap.size + 1 := by have h1 := HR1.out.lt; omega
    have nn2 : ¬ w.heap.size + 1 = wC.heap.size := fun e => nn1 e.symm
    by_cases hlt : k < l.length
    rotate_left
    ·
      obtain rfl : k = l.length := by omega
      have HE := hide (HA.out.trans (HRUN.out.trans (runE_end rfl)))
      clear HXL HX1 HX2 HX3 HX4 HX5
      go_wp2
      refine bodyPost_ret (v := .tuple #[.agg #[.int .i64 y.fLength, .slice A1 L1 C1, .slice A2 L2 C2, .slice A3 L3 C3, .slice A4 L4 C4, .slice A5 L5 C5], .int .i64 (l.length : Int), .int .i64 0]) (by simp [results, Tryz.results27, go_sem, rc, rf, rl]) rfl ?_
      have hz : w.heap.size + 1 ∉ G := fun hm => by have := (HLO.out _ hm).1; omega
      rw [HE.out]; refine ⟨_, _, _, _, _, G, rfl, ?_, HND.out, fun b hb => by have := (HLO.out b hb).1; omega, ?_⟩
      · first | with_reducible exact (T.ows_far (T.ows_far (T.ows_far (T.ows_far (T.ows_far (T.ows_far HOW.out hz 0 (.int .i64 y.fLength)) hz 1 (.slice A1 L1 C1)) hz 2 (.slice A2 L2 C2)) hz 3 (.slice A3 L3 C3)) hz 4 (.slice A4 L4 C4)) hz 5 (.slice A5 L5 C5)) | (dsimp only; exact (T.ows_far (T.ows_far (T.ows_far (T.ows_far (T.ows_far (T.ows_far HOW.out hz 0 (.int .i64 y.fLength)) hz 1 (.slice A1 L1 C1)) hz 2 (.slice A2 L2 C2)) hz 3 (.slice A3 L3 C3)) hz 4 (.slice A4 L4 C4)) hz 5 (.slice A5 L5 C5)))
      · exact (Below.setCell (p := ⟨w.heap.size + 1, 5, none⟩) (Below.setCell (p := ⟨w.heap.size + 1, 4, none⟩) (Below.setCell (p := ⟨w.heap.size + 1, 3, none⟩) (Below.setCell (p := ⟨w.heap.size + 1, 2, none⟩) (Below.setCell (p := ⟨w.heap.size + 1, 1, none⟩) (Below.setCell (p := ⟨w.heap.size + 1, 0, none⟩) HBW.out (Nat.le_succ _) (.int .i64 y.fLength)) (Nat.le_succ _) (.slice A1 L1 C1)) (Nat.le_succ _) (.slice A2 L2 C2)) (Nat.le_succ _) (.slice A3 L3 C3)) (Nat.le_succ _) (.slice A4 L4 C4)) (Nat.le_succ _) (.slice A5 L5 C5))
    have hgk := List.getElem?_eq_getElem hlt
    obtain ⟨b1, off, cs1, hA, hb1, hcs, hcell⟩ := HXL.out k l[k] hgk
    subst hA
    generalize l[k] = ed at *
    have HG := hide hgk; clear hgk
    have HAD := hide (T.at_below (T.at_elem (o := off + k * 9) hb1 (show T.rds w ed.fs cs1 by simpa only [GEdit.t, T.rd] using hcs) hcell rfl) HBW.out); clear hcs hcell
    have HAY := hide (show T.at wr y.fs wC.heap.size 0 from ⟨HBK.out.lt, _, T.ows_rds _ _ _ HOW.out, fun i u hi => by rw [Nat.zero_add]; exact (HBK.out.cell i).trans (by simpa using hi)⟩)
    have hq1 : b1 < wr.heap.size := Nat.lt_of_lt_of_le hb1 HBW.out.size
    have OK := hide (@applyF_small y ed); have R1' := hide (runE_step (s := y) HG.out); have R2' := hide (runE_stop (s := y) HG.out)
    go_wp2_with fail
    refine (c_l31Apply y wC.heap.size 0 ed b1 (off + k * 9) _ HYS.out HAD.out HAY.out).mono ?_; rintro e w2 ⟨v1, v2, v3, v4, v5, F2, rfl, hN⟩
    have hb := hN.below
    obtain ⟨⟨B1, M1, D1, rfl⟩, ⟨B2, M2, D2, rfl⟩, ⟨B3, M3, D3, rfl⟩, ⟨B4, M4, D4, rfl⟩, ⟨B5, M5, D5, rfl⟩⟩ := GSession.sl5 (T.ows_rds _ _ _ hN.ows)
    have HN := hide hN; clear hN
    generalize applyF y ed = AF at *
    have HBX := hide hb; clear hb
    have HB3 := hide (bthen HBW.out HBW.out.size HBX.out); have HBK3 := hide (HBK.out.below HBX.out HBK.out.lt); have HBR3 := hide (HBR.out.below HBX.out HBR.out.lt)
    have hs3 := HBX.out.size; have hloF := HN.out.lo; have HLF := hide hloF; clear hloF
    clear kk kf kl rc rf
    have kr := HBR3.out.cell; have fr := HBR3.out.free; have lr := HBR3.out.lt; have kk := HBK3.out.cell; have kf := HBK3.out.free; have kl := HBK3.out.lt
    by_cases hc : AF.2 = 0
    rotate_left
    ·
      have q0 : (AF.2 != 0) = true := bneI_t hc
      have HE := hide (HA.out.trans (HRUN.out.trans (R2'.out hc))); clear hc
      go_wp2
      refine bodyPost_ret (v := .tuple #[.agg #[.int .i64 0, .slice none 0 0, .slice none 0 0, .slice none 0 0, .slice none 0 0, .slice none 0 0], .int .i64 (k : Int), .int .i64 AF.2]) (by simp [results, Tryz.results27, go_sem, kr, fr, lr]) rfl ?_
      rw [HE.out]; refine ⟨_, _, _, _, _, [], rfl, none_ows _, List.nodup_nil, by simp, ?_⟩
      have hfin := (Below.setCell (p := ⟨w.heap.size + 1, 5, none⟩) (Below.setCell (p := ⟨w.heap.size + 1, 4, none⟩) (Below.setCell (p := ⟨w.heap.size + 1, 3, none⟩) (Below.setCell (p := ⟨w.heap.size + 1, 2, none⟩) (Below.setCell (p := ⟨w.heap.size + 1, 1, none⟩) (Below.setCell (p := ⟨w.heap.size + 1, 0, none⟩) HB3.out (Nat.le_succ _) (.int .i64 0)) (Nat.le_succ _) (.slice none 0 0)) (Nat.le_succ _) (.slice none 0 0)) (Nat.le_succ _) (.slice none 0 0)) (Nat.le_succ _) (.slice none 0 0)) (Nat.le_succ _) (.slice none 0 0))
      exact hfin.alloc hfin.size _
    have q0 : (AF.2 != 0) = false := bneI_f hc
    have HE := hide (HRUN.out.trans (R1'.out hc)); have HOK := hide (OK.out HYS.out hc); clear hc
    go_wp2
    go_roundw
    case rel =>
      have hz : wC.heap.size ∉ F2 := fun hm => by have h1 := HLF.out _ hm; have h2 := HBK.out.lt; omega
      refine ⟨k + 1, AF.1, B1, M1, D1, B2, M2, D2, B3, M3, D3, B4, M4, D4, B5, M5, D5, F2, by omega, by go_num, ?_, ?_, HN.out.nodup, fun b hb => ?_, HOK.out.1, HOK.out.2, HE.out, ?_, ?_⟩
      · have := (((((((HBK3.out.set_ 0 (.int .i64 AF.1.fLength)).set_ 1 (.slice B1 M1 D1)).set_ 2 (.slice B2 M2 D2)).set_ 3 (.slice B3 M3 D3)).set_ 4 (.slice B4 M4 D4)).set_ 5 (.slice B5 M5 D5))).alloc (.cells #[.int .i64 AF.1.fLength, .slice B1 M1 D1, .slice B2 M2 D2, .slice B3 M3 D3, .slice B4 M4 D4, .slice B5 M5 D5] 32); simpa using this
      · exact T.ows_all ((T.ows_far (T.ows_far (T.ows_far (T.ows_far (T.ows_far (T.ows_far HN.out.ows hz 0 (.int .i64 AF.1.fLength)) hz 1 (.slice B1 M1 D1)) hz 2 (.slice B2 M2 D2)) hz 3 (.slice B3 M3 D3)) hz 4 (.slice B4 M4 D4)) hz 5 (.slice B5 M5 D5))) ((Below.refl _ _).alloc (Nat.le_refl _) _)
      · have h1 := HLF.out b hb; have h2 := HBK.out.lt; have h4 := HBR.out.lt
        exact ⟨by omega, by omega⟩
      · have hfin := (Below.setCell (p := ⟨wC.heap.size, 5, none⟩) (Below.setCell (p := ⟨wC.heap.size, 4, none⟩) (Below.setCell (p := ⟨wC.heap.size, 3, none⟩) (Below.setCell (p := ⟨wC.heap.size, 2, none⟩) (Below.setCell (p := ⟨wC.heap.size, 1, none⟩) (Below.setCell (p := ⟨wC.heap.size, 0, none⟩) HB3.out (show w.heap.size ≤ wC.heap.size by have h1 := HR1.out.lt; omega) (.int .i64 AF.1.fLength)) (show w.heap.size ≤ wC.heap.size by have h1 := HR1.out.lt; omega) (.slice B1 M1 D1)) (show w.heap.size ≤ wC.heap.size by have h1 := HR1.out.lt; omega) (.slice B2 M2 D2)) (show w.heap.size ≤ wC.heap.size by have h1 := HR1.out.lt; omega) (.slice B3 M3 D3)) (show w.heap.size ≤ wC.heap.size by have h1 := HR1.out.lt; omega) (.slice B4 M4 D4)) (show w.heap.size ≤ wC.heap.size by have h1 := HR1.out.lt; omega) (.slice B5 M5 D5)); exact hfin.alloc hfin.size _
      · exact (((((((HBR3.out.far (p := ⟨wC.heap.size, 0, none⟩) nn2 (.int .i64 AF.1.fLength)).far (p := ⟨wC.heap.size, 1, none⟩) nn2 (.slice B1 M1 D1)).far (p := ⟨wC.heap.size, 2, none⟩) nn2 (.slice B2 M2 D2)).far (p := ⟨wC.heap.size, 3, none⟩) nn2 (.slice B3 M3 D3)).far (p := ⟨wC.heap.size, 4, none⟩) nn2 (.slice B4 M4 D4)).far (p := ⟨wC.heap.size, 5, none⟩) nn2 (.slice B5 M5 D5))).alloc _
    case measure => simp [intOf]; omega
end Go.Proofs.YtgmgjhdckepmmaaGreat
end
