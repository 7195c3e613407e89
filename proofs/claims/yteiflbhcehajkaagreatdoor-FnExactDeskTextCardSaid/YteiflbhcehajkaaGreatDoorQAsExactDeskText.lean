/- Contracts: scores, both sides. -/
import Derived.Test.YteiflbhcehajkaaGreatDoorQArExactDeskText
set_option linter.unusedVariables false
set_option linter.unusedSimpArgs false
namespace Go.Proofs.YteiflbhcehajkaaGreatDoor
open Go.RowKit
set_option maxHeartbeats 2000000 in
set_option maxRecDepth 20000 in
theorem c_l18Order (x y : GNote) (b o b' o' : Nat) (w : World) (hx : NoteOk x) (hy : NoteOk y) (h : T.at w x.fs b o) (h' : T.at w y.fs b' o') : Calls Tryz.prog 136 #[.pointer (some ⟨b, o, none⟩), .pointer (some ⟨b', o', none⟩)] w fun e w' => e = .returned (.int .i64 (cmpNote x y)) ∧ Below w.heap.size w w' := by
  have k1 := inB_iff.1 hx.channel; have k2 := inB_iff.1 hy.channel; have k3 := inB_iff.1 hx.key; have k4 := inB_iff.1 hy.key
  have e1 : IntKind.i64.wrap (x.fChannel - y.fChannel) = x.fChannel - y.fChannel := IntWalk.i64_in _ (by omega)
  have e2 : IntKind.i64.wrap (x.fKey - y.fKey) = x.fKey - y.fKey := IntWalk.i64_in _ (by omega)
  obtain ⟨cc, hcc⟩ : ∃ cc, cmpFr x.fAt y.fAt = cc := ⟨_, rfl⟩
  have HC := hide (show cmpNote x y = if cc ≠ 0 then cc else if x.fChannel ≠ y.fChannel then x.fChannel - y.fChannel else x.fKey - y.fKey by unfold cmpNote; rw [hcc])
  have CP := hide (fun W => (by have := c_l02Compare x.fAt y.fAt W hx.at_.1 hy.at_.1; rw [hcc] at this; exact this : Calls Tryz.prog 139 #[.agg #[.int .i64 x.fAt.fNum, .int .i64 x.fAt.fDen], .agg #[.int .i64 y.fAt.fNum, .int .i64 y.fAt.fDen]] W fun e w' => e = .returned (.int .i64 cc) ∧ Below W.heap.size W w'))
  clear hcc k1 k2 k3 k4 hx hy
  obtain ⟨ltp, csp, hrp, hcp⟩ := h; obtain rfl := GNote.rd_open hrp; clear hrp
  have p0 : w.cell? ⟨b, o, none⟩ = some (.int .i64 x.fAt.fNum) := hcp 0 _ rfl
  have p1 : w.cell? ⟨b, o + 1, none⟩ = some (.int .i64 x.fAt.fDen) := hcp 1 _ rfl
  have p4 : w.cell? ⟨b, o + 4, none⟩ = some (.int .i64 x.fKey) := hcp 4 _ rfl
  have p6 : w.cell? ⟨b, o + 6, none⟩ = some (.int .i64 x.fChannel) := hcp 6 _ rfl
  clear hcp
  obtain ⟨ltq, csq, hrq, hcq⟩ := h'; obtain rfl := GNote.rd_open hrq; clear hrq
  have q0 : w.cell? ⟨b', o', none⟩ = some (.int .i64 y.fAt.fNum) := hcq 0 _ rfl
  have q1 : w.cell? ⟨b', o' + 1, none⟩ = some (.int .i64 y.fAt.fDen) := hcq 1 _ rfl
  have q4 : w.cell? ⟨b', o' + 4, none⟩ = some (.int .i64 y.fKey) := hcq 4 _ rfl
  have q6 : w.cell? ⟨b', o' + 6, none⟩ = some (.int .i64 y.fChannel) := hcq 6 _ rfl
  clear hcq
  go_enter Tryz.func136, Tryz.ntmps136
  go_wp2
  have g0 := bel_cell p0
  have g1 := bel_cell p1
  have g2 := bel_cell q0
  have g3 := bel_cell q1
  refine wp_region_bel (by kernel_rfl) (by kernel_rfl) ?_
  repeat (first | go_big_quiet_skip | (go_big_quiet_want; go_big_quiet_op; first | go_big_quiet_on | (apply Exists.intro; refine ⟨fun _ => ?_, ?_⟩; (· (go_at_call 139; exact Calls.quiet_bel (CP.out _))); go_big_quiet_on)))
  refine wpQuiet_nil ?_
  rintro w1 ⟨uu, rfl⟩
  have hb9 := bel_below w uu
  generalize bel w uu = w1 at *
  clear g0 g1 g2 g3
  have HB1 := hide hb9
  have rp4 := (hb9.cell ltp).trans p4
  have rp6 := (hb9.cell ltp).trans p6
  have rq4 := (hb9.cell ltq).trans q4
  have rq6 := (hb9.cell ltq).trans q6
  clear hb9 p0 p1 p4 p6 q0 q1 q4 q6
  by_cases c1 : cc = 0
  rotate_left
  ·
    have t1 : (cc != 0) = true := bneI_t c1; have C1 := hide c1; clear c1
    go_wp2
    go_ret
    exact ⟨ret_int (by rw [HC.out, if_pos C1.out]), HB1.out⟩
  have t1 : (cc != 0) = false := bneI_f c1; have C1 := hide c1; clear c1
  go_wp2
  have g0 := bel_cell rp6
  have g1 := bel_cell rq6
  refine wp_region_bel (by kernel_rfl) (by kernel_rfl) ?_
  repeat (first | go_big_quiet_skip | (go_big_quiet_want; go_big_quiet_op; first | go_big_quiet_on | (apply Exists.intro; refine ⟨fun _ => ?_, ?_⟩; (· (fail)); go_big_quiet_on)))
  refine wpQuiet_nil ?_
  rintro w2 ⟨uu, rfl⟩
  have hb9 := bel_below w1 uu
  generalize bel w1 uu = w2 at *
  clear g0 g1
  have HB2 := hide (bthen HB1.out HB1.out.size hb9)
  have lp1 := Nat.lt_of_lt_of_le ltp HB1.out.size; have lq1 := Nat.lt_of_lt_of_le ltq HB1.out.size
  have sp4 := (hb9.cell lp1).trans rp4
  have sp6 := (hb9.cell lp1).trans rp6
  have sq4 := (hb9.cell lq1).trans rq4
  have sq6 := (hb9.cell lq1).trans rq6
  clear hb9 rp4 rp6 rq4 rq6
  by_cases c2 : x.fChannel = y.fChannel
  rotate_left
  ·
    have t2 : (x.fChannel != y.fChannel) = true := bneI_t c2; have C2 := hide c2; clear c2
    go_wp2
    have g0 := bel_cell sp6
    have g1 := bel_cell sq6
    refine wp_region_bel (by kernel_rfl) (by kernel_rfl) ?_
    repeat (first | go_big_quiet_skip | (go_big_quiet_want; go_big_quiet_op; first | go_big_quiet_on | (apply Exists.intro; refine ⟨fun _ => ?_, ?_⟩; (· (fail)); go_big_quiet_on)))
    refine wpQuiet_nil ?_
    rintro w3 ⟨uu, rfl⟩
    have hb9 := bel_below w2 uu
    generalize bel w2 uu = w3 at *
    clear g0 g1
    have HB3 := hide (bthen HB2.out HB2.out.size hb9)
    go_wp2
    go_ret
    exact ⟨ret_int (by rw [HC.out, if_neg (fun h => h C1.out), if_pos C2.out]), HB3.out⟩
  have t2 : (x.fChannel != y.fChannel) = false := bneI_f c2; have C2 := hide c2; clear c2
  go_wp2
  have g0 := bel_cell sp4
  have g1 := bel_cell sq4
  refine wp_region_bel (by kernel_rfl) (by kernel_rfl) ?_
  repeat (first | go_big_quiet_skip | (go_big_quiet_want; go_big_quiet_op; first | go_big_quiet_on | (apply Exists.intro; refine ⟨fun _ => ?_, ?_⟩; (· (fail)); go_big_quiet_on)))
  refine wpQuiet_nil ?_
  rintro w3 ⟨uu, rfl⟩
  have hb9 := bel_below w2 uu
  generalize bel w2 uu = w3 at *
  clear g0 g1
  have HB3 := hide (bthen HB2.out HB2.out.size hb9)
  go_wp2
  go_ret
  exact ⟨ret_int (by rw [HC.out, if_neg (fun h => h C1.out), if_neg (fun h => h C2.out)]), HB3.out⟩
set_option maxHeartbeats 2000000 in
set_option maxRecDepth 20000 in
theorem c_areNotes (v : Value) (l : List GNote) (w : World) (hr : T.rd w (T.sl 104 7 (l.map GNote.t)) [v]) : Calls Tryz.prog 143 #[v] w fun e w' => e = .returned (.bool (tf (Each l fun _ f => NoteOk f))) ∧ Below w.heap.size w w' := by
  obtain ⟨A, cap, rfl, hln, hc, hx⟩ := T.rd_openG hr; have HX := hide hx; clear hx hr
  go_enter Tryz.func143, Tryz.ntmps143
  go_wp2
  go_loopw [7] (fun i wr => ∃ k : Nat, k ≤ l.length ∧ i = .int .i64 k ∧ Upto l (fun _ f => NoteOk f) k ∧ Below w.heap.size w wr) (fun i _ => l.length - (intOf i).toNat)
  case atStart => exact ⟨0, Nat.zero_le _, rfl, Upto.zero, Below.refl _ _⟩
  case round =>
    obtain ⟨k, hk, rfl, hs, hbw⟩ := hrel
    have HS := hide hs; have HB := hide hbw; clear hs hbw
    by_cases hlt : k < l.length
    rotate_left
    ·
      have hall := hide (HS.out.all (by omega))
      go_wp2
      go_ret
      exact ⟨ret_bool (tf_yes hall.out).symm, HB.out⟩
    have hgk := List.getElem?_eq_getElem hlt
    obtain ⟨b1, off, cs1, hA, hb1, hcs, hcell⟩ := HX.out k l[k] hgk
    subst hA
    generalize l[k] = y at *
    have HG := hide hgk; clear hgk
    obtain rfl := GNote.rd_open (show T.rds _ _ _ by simpa only [GNote.t, T.rd] using hcs)
    have d0 := (HB.out.cell hb1).trans (hcell 0 (.int .i64 y.fAt.fNum) rfl)
    have d1 := (HB.out.cell hb1).trans (hcell 1 (.int .i64 y.fAt.fDen) rfl)
    have d2 := (HB.out.cell hb1).trans (hcell 2 (.int .i64 y.fLength.fNum) rfl)
    have d3 := (HB.out.cell hb1).trans (hcell 3 (.int .i64 y.fLength.fDen) rfl)
    have d4 := (HB.out.cell hb1).trans (hcell 4 (.int .i64 y.fKey) rfl)
    have d5 := (HB.out.cell hb1).trans (hcell 5 (.int .i64 y.fVelocity) rfl)
    have d6 := (HB.out.cell hb1).trans (hcell 6 (.int .i64 y.fChannel) rfl)
    rw [show off + (k * 7 + 0) = off + k * 7 by omega] at d0
    rw [show off + (k * 7 + 1) = off + k * 7 + 1 by omega] at d1
    rw [show off + (k * 7 + 2) = off + k * 7 + 2 by omega] at d2
    rw [show off + (k * 7 + 3) = off + k * 7 + 3 by omega] at d3
    rw [show off + (k * 7 + 4) = off + k * 7 + 4 by omega] at d4
    rw [show off + (k * 7 + 5) = off + k * 7 + 5 by omega] at d5
    rw [show off + (k * 7 + 6) = off + k * 7 + 6 by omega] at d6
    clear hcs hcell
    have hq1 : b1 < wr.heap.size := Nat.lt_of_lt_of_le hb1 HB.out.size
    have HB2 := hide (HB.out.alloc HB.out.size (.cells #[.int .i64 y.fAt.fNum, .int .i64 y.fAt.fDen, .int .i64 y.fLength.fNum, .int .i64 y.fLength.fDen, .int .i64 y.fKey, .int .i64 y.fVelocity, .int .i64 y.fChannel] 104))
    by_cases h1 : NoteOk y
    rotate_left
    ·
      have q1 := tf_no h1; have H1 := hide h1; clear h1
      go_wp2_with (go_at_call 191; refine (c_isNote y _ _ GNote.rd_mk).mono ?_; rintro e w2 ⟨rfl, hb⟩; have HB3 := hide (bthen HB2.out HB2.out.size hb); clear hb; rw [q1])
      go_ret
      exact ⟨ret_bool (tf_no fun h => H1.out (h k y HG.out)).symm, HB3.out⟩
    have q1 := tf_yes h1; have H1 := hide h1; clear h1
    go_wp2_with (go_at_call 191; refine (c_isNote y _ _ GNote.rd_mk).mono ?_; rintro e w2 ⟨rfl, hb⟩; have HB3 := hide (bthen HB2.out HB2.out.size hb); clear hb; rw [q1])
    go_roundw
    case rel => exact ⟨k + 1, by omega, by go_num, HS.out.step HG.out H1.out, HB3.out⟩
    case measure => simp [intOf]; omega
def ordN (l : List GNote) (i : Nat) (x : GNote) : Prop := ∀ p, 0 < i → l[i - 1]? = some p → cmpNote p x < 0
theorem ScoreOk.iff {s : GScore} : ScoreOk s ↔ s.fNotes.length ≤ 60 ∧ (Each s.fNotes fun _ x => NoteOk x) ∧ Each s.fNotes (ordN s.fNotes) :=
  ⟨fun h => ⟨h.few, fun i x hx => (h.each i x hx).1, fun i x hx => (h.each i x hx).2⟩, fun ⟨a, b, c⟩ => ⟨a, fun i x hx => ⟨b i x hx, c i x hx⟩⟩⟩
set_option maxHeartbeats 2000000 in
set_option maxRecDepth 20000 in
theorem c_isScore (x : GScore) (cs : List Value) (w : World) (h : T.rds w x.fs cs) : Calls Tryz.prog 97 #[.agg cs.toArray] w fun e w' => e = .returned (.bool (tf (ScoreOk x))) ∧ Below w.heap.size w w' := by
  obtain ⟨v0, rfl, h0⟩ := GScore.rd_open h
  clear h
  have R0 := hide h0; obtain ⟨va0, vc0, rfl, vl0, vm0, vx0⟩ := T.rd_openG h0
  have HX0 := hide vx0; clear vx0 h0
  have HB0 := hide (show Below w.heap.size w (w.alloc (.cells #[(.slice va0 x.fNotes.length vc0)] 60)) from (Below.refl _ _).alloc (Nat.le_refl _) _)
  have HK0 := hide (Bk.born w 60 #[(.slice va0 x.fNotes.length vc0)])
  have HSC := hide (@ScoreOk.iff x)
  have hl0 : ((x.fNotes.length : Nat) : Int) ≥ 0 := by omega
  by_cases h1 : x.fNotes.length ≤ 60
  rotate_left
  ·
    have k1 : (60 : Int) < (x.fNotes.length : Int) := by omega
    go_enter Tryz.func97, Tryz.ntmps97
    go_wp2
    go_ret
    exact ⟨ret_bool (tf_no (fun h => h1 (HSC.out.1 h).1)).symm, HB0.out⟩
  have k1 : ¬ (60 : Int) < (x.fNotes.length : Int) := by omega
  by_cases h2 : Each x.fNotes fun _ f => NoteOk f
  rotate_left
  ·
    have q2 := tf_no h2; have H2 := hide h2; clear h2
    go_enter Tryz.func97, Tryz.ntmps97
    go_wp2_with (go_at_call 143; refine (c_areNotes _ x.fNotes _ (T.rd_below R0.out HB0.out)).mono ?_; rintro e w1 ⟨rfl, hb⟩; rw [q2]; have HB1 := hide (bthen HB0.out HB0.out.size hb); have HK1 := hide (HK0.out.below hb HK0.out.lt); have ka := HK1.out.cell; have la := HK1.out.lt; clear hb)
    go_ret
    exact ⟨ret_bool (tf_no (fun h => H2.out (HSC.out.1 h).2.1)).symm, HB1.out⟩
  have q2 := tf_yes h2; have H2 := hide h2; clear h2
  go_enter Tryz.func97, Tryz.ntmps97
  go_wp2_with (go_at_call 143; refine (c_areNotes _ x.fNotes _ (T.rd_below R0.out HB0.out)).mono ?_; rintro e w1 ⟨rfl, hb⟩; rw [q2]; have HB1 := hide (bthen HB0.out HB0.out.size hb); have HK1 := hide (HK0.out.below hb HK0.out.lt); have ka := HK1.out.cell; have la := HK1.out.lt; clear hb)
  go_loopw [3] (fun i wr => ∃ k : Nat, 1 ≤ k ∧ (k ≤ x.fNotes.length ∨ k = 1) ∧ i = .int .i64 k ∧ Upto x.fNotes (ordN x.fNotes) k ∧ Below w1.heap.size w1 wr) (fun i _ => x.fNotes.length + 1 - (intOf i).toNat)
  case atStart => exact ⟨1, Nat.le_refl _, .inr rfl, rfl, fun i y hi hy p hp => by omega, Below.refl _ _⟩
  case round =>
    obtain ⟨k, hk1, hk, rfl, hs, hbw⟩ := hrel
    have HS := hide hs; have HW := hide hbw; have HB := hide (bthen HB1.out HB1.out.size hbw); have HK := hide (HK1.out.below hbw HK1.out.lt); clear hs hbw ka la
    have ka := HK.out.cell; have la := HK.out.lt
    by_cases hlt : k < x.fNotes.length
    rotate_left
    ·
      have hall := hide (HSC.out.2 ⟨h1, H2.out, HS.out.all (by omega)⟩)
      go_wp2
      go_ret
      exact ⟨ret_bool (tf_yes hall.out).symm, HB.out⟩
    obtain ⟨j, rfl⟩ : ∃ j, k = j + 1 := ⟨k - 1, by omega⟩
    have hwj : IntKind.i64.wrap (((j + 1 : Nat) : Int) - 1) = (j : Int) := by rw [show ((j + 1 : Nat) : Int) - 1 = (j : Int) by omega]; exact IntWalk.i64_in _ (by omega)
    have hgk := List.getElem?_eq_getElem hlt; have hgj := List.getElem?_eq_getElem (show j < x.fNotes.length by omega)
    obtain ⟨b1, off, cs1, hA, hb1, hcs, hcell⟩ := HX0.out (j + 1) x.fNotes[j + 1] hgk
    obtain ⟨b2, off2, cs2, hA2, hb2, hcs2, hcell2⟩ := HX0.out j x.fNotes[j] hgj
    subst hA
    obtain ⟨rfl, rfl⟩ : b1 = b2 ∧ off = off2 := by injection hA2 with hA2; injection hA2 with e1 e2; exact ⟨e1, e2⟩
    clear hA2
    generalize x.fNotes[j + 1] = y at *; generalize x.fNotes[j] = z at *
    have HY := hide (H2.out _ _ hgk); have HZ := hide (H2.out _ _ hgj); have HGK := hide hgk; have HGJ := hide hgj; clear hgk hgj
    obtain rfl := GNote.rd_open (show T.rds _ _ _ by simpa only [GNote.t, T.rd] using hcs)
    have d0 := (HB.out.cell hb1).trans (hcell 0 (.int .i64 y.fAt.fNum) rfl)
    have d1 := (HB.out.cell hb1).trans (hcell 1 (.int .i64 y.fAt.fDen) rfl)
    have d2 := (HB.out.cell hb1).trans (hcell 2 (.int .i64 y.fLength.fNum) rfl)
    have d3 := (HB.out.cell hb1).trans (hcell 3 (.int .i64 y.fLength.fDen) rfl)
    have d4 := (HB.out.cell hb1).trans (hcell 4 (.int .i64 y.fKey) rfl)
    have d5 := (HB.out.cell hb1).trans (hcell 5 (.int .i64 y.fVelocity) rfl)
    have d6 := (HB.out.cell hb1).trans (hcell 6 (.int .i64 y.fChannel) rfl)
    rw [show off + ((j + 1) * 7 + 0) = off + (j + 1) * 7 by omega] at d0
    rw [show off + ((j + 1) * 7 + 1) = off + (j + 1) * 7 + 1 by omega] at d1
    rw [show off + ((j + 1) * 7 + 2) = off + (j + 1) * 7 + 2 by omega] at d2
    rw [show off + ((j + 1) * 7 + 3) = off + (j + 1) * 7 + 3 by omega] at d3
    rw [show off + ((j + 1) * 7 + 4) = off + (j + 1) * 7 + 4 by omega] at d4
    rw [show off + ((j + 1) * 7 + 5) = off + (j + 1) * 7 + 5 by omega] at d5
    rw [show off + ((j + 1) * 7 + 6) = off + (j + 1) * 7 + 6 by omega] at d6
    clear hcs hcell
    obtain rfl := GNote.rd_open (show T.rds _ _ _ by simpa only [GNote.t, T.rd] using hcs2)
    have c0 := (HB.out.cell hb1).trans (hcell2 0 (.int .i64 z.fAt.fNum) rfl)
    have c1 := (HB.out.cell hb1).trans (hcell2 1 (.int .i64 z.fAt.fDen) rfl)
    have c2 := (HB.out.cell hb1).trans (hcell2 2 (.int .i64 z.fLength.fNum) rfl)
    have c3 := (HB.out.cell hb1).trans (hcell2 3 (.int .i64 z.fLength.fDen) rfl)
    have c4 := (HB.out.cell hb1).trans (hcell2 4 (.int .i64 z.fKey) rfl)
    have c5 := (HB.out.cell hb1).trans (hcell2 5 (.int .i64 z.fVelocity) rfl)
    have c6 := (HB.out.cell hb1).trans (hcell2 6 (.int .i64 z.fChannel) rfl)
    rw [show off + (j * 7 + 0) = off + j * 7 by omega] at c0
    rw [show off + (j * 7 + 1) = off + j * 7 + 1 by omega] at c1
    rw [show off + (j * 7 + 2) = off + j * 7 + 2 by omega] at c2
    rw [show off + (j * 7 + 3) = off + j * 7 + 3 by omega] at c3
    rw [show off + (j * 7 + 4) = off + j * 7 + 4 by omega] at c4
    rw [show off + (j * 7 + 5) = off + j * 7 + 5 by omega] at c5
    rw [show off + (j * 7 + 6) = off + j * 7 + 6 by omega] at c6
    clear hcs2 hcell2
    have hq1 : b1 < wr.heap.size := Nat.lt_of_lt_of_le hb1 HB.out.size
    have i1 : (j : Int) < (x.fNotes.length : Int) := by omega
    have i2 : ((j + 1 : Nat) : Int) < (x.fNotes.length : Int) := by omega
    obtain ⟨cc, hcc⟩ : ∃ cc, cmpNote z y = cc := ⟨_, rfl⟩
    have CP := hide (fun W => (by have := c_compareNotes z y W HZ.out HY.out; rw [hcc] at this; exact this : Calls Tryz.prog 144 #[.agg #[.int .i64 z.fAt.fNum, .int .i64 z.fAt.fDen, .int .i64 z.fLength.fNum, .int .i64 z.fLength.fDen, .int .i64 z.fKey, .int .i64 z.fVelocity, .int .i64 z.fChannel], .agg #[.int .i64 y.fAt.fNum, .int .i64 y.fAt.fDen, .int .i64 y.fLength.fNum, .int .i64 y.fLength.fDen, .int .i64 y.fKey, .int .i64 y.fVelocity, .int .i64 y.fChannel]] W fun e w' => e = .returned (.int .i64 cc) ∧ Below W.heap.size W w'))
    have HCC := hide hcc; clear hcc
    go_wp2
    have g0 := bel_bk HK.out
    have g1 := bel_cell c0
    have g2 := bel_cell c1
    have g3 := bel_cell c2
    have g4 := bel_cell c3
    have g5 := bel_cell c4
    have g6 := bel_cell c5
    have g7 := bel_cell c6
    have g8 := bel_cell d0
    have g9 := bel_cell d1
    have g10 := bel_cell d2
    have g11 := bel_cell d3
    have g12 := bel_cell d4
    have g13 := bel_cell d5
    have g14 := bel_cell d6
    clear c0 c1 c2 c3 c4 c5 c6 d0 d1 d2 d3 d4 d5 d6
    refine wp_region_bel (by kernel_rfl) (by kernel_rfl) ?_
    repeat (first | go_big_quiet_skip | (go_big_quiet_want; go_big_quiet_op; first | go_big_quiet_on | (apply Exists.intro; refine ⟨fun _ => ?_, ?_⟩; (· (go_at_call 144; exact Calls.quiet_bel (CP.out _))); go_big_quiet_on)))
    refine wpQuiet_nil ?_
    rintro w9 ⟨uu, rfl⟩
    have hb9 := bel_below wr uu
    generalize bel wr uu = w9 at *
    have HB9 := hide (bthen HB.out HB.out.size hb9); have HW9 := hide (bthen HW.out HW.out.size hb9); clear hb9 g0 g1 g2 g3 g4 g5 g6 g7 g8 g9 g10 g11 g12 g13 g14
    by_cases h3 : cc < 0
    rotate_left
    ·
      have k3 : (0 : Int) ≤ cc := by omega
      have H3 := hide h3; clear h3
      go_wp2
      go_ret
      exact ⟨ret_bool (tf_no (fun h => by have a := H3.out; have b := (HSC.out.1 h).2.2 (j + 1) y HGK.out z (by omega) HGJ.out; rw [HCC.out] at b; omega)).symm, HB9.out⟩
    have k3 : ¬ (0 : Int) ≤ cc := by omega
    have H3 := hide h3; clear h3
    go_wp2
    go_roundw
    case rel => exact ⟨j + 2, by omega, .inl (by omega), by go_num, HS.out.step HGK.out (fun p _ hp => by rw [Nat.add_sub_cancel, HGJ.out] at hp; injection hp with hp; rw [← hp, HCC.out]; exact H3.out), HW9.out⟩
    case measure => simp [intOf]; omega
set_option maxHeartbeats 2000000 in
set_option maxRecDepth 20000 in
theorem c_l18Ok (x : GScore) (b o : Nat) (w : World) (h : T.at w x.fs b o) : Calls Tryz.prog 90 #[.pointer (some ⟨b, o, none⟩)] w fun e w' => e = .returned (.bool (tf (ScoreOk x))) ∧ Below w.heap.size w w' := by
  have HAT := hide h
  obtain ⟨hlt0, cs, hr, hc⟩ := h
  obtain ⟨v0, rfl, h0⟩ := GScore.rd_open hr
  clear hr
  have R0 := hide h0; obtain ⟨va0, vc0, rfl, vl0, vm0, vx0⟩ := T.rd_openG h0
  have HX0 := hide vx0; clear vx0 h0
  have HL := hide hlt0; have HCC := hide hc; have HB0 := hide (Below.refl w.heap.size w); clear hlt0 hc
  have HSC := hide (@ScoreOk.iff x)
  have p0 : w.cell? ⟨b, o, none⟩ = some (.slice va0 x.fNotes.length vc0) := (HB0.out.cell HL.out).trans (HCC.out 0 _ rfl)
  have lb : b < w.heap.size := Nat.lt_of_lt_of_le HL.out HB0.out.size
  by_cases h1 : x.fNotes.length ≤ 60
  rotate_left
  ·
    have k1 : (60 : Int) < (x.fNotes.length : Int) := by omega
    go_enter Tryz.func90, Tryz.ntmps90
    go_wp2
    go_ret
    exact ⟨ret_bool (tf_no (fun h => h1 (HSC.out.1 h).1)).symm, HB0.out⟩
  have k1 : ¬ (60 : Int) < (x.fNotes.length : Int) := by omega
  go_enter Tryz.func90, Tryz.ntmps90
  go_wp2
  go_loopw [3] (fun i wr => ∃ k : Nat, k ≤ x.fNotes.length ∧ i = .int .i64 k ∧ Upto x.fNotes (fun _ f => NoteOk f) k ∧ Upto x.fNotes (ordN x.fNotes) k ∧ Below w.heap.size w wr) (fun i _ => x.fNotes.length - (intOf i).toNat)
  case atStart => exact ⟨0, Nat.zero_le _, rfl, Upto.zero, Upto.zero, Below.refl _ _⟩
  case round =>
    obtain ⟨k, hk, rfl, hs, hs2, hbw⟩ := hrel
    have HS := hide hs; have HS2 := hide hs2; have HB := hide hbw; clear hs hs2 hbw p0 lb
    have p0 : wr.cell? ⟨b, o, none⟩ = some (.slice va0 x.fNotes.length vc0) := (HB.out.cell HL.out).trans (HCC.out 0 _ rfl)
    have lb : b < wr.heap.size := Nat.lt_of_lt_of_le HL.out HB.out.size
    by_cases hlt : k < x.fNotes.length
    rotate_left
    ·
      have hall := hide (HSC.out.2 ⟨h1, HS.out.all (by omega), HS2.out.all (by omega)⟩)
      go_wp2
      go_ret
      exact ⟨ret_bool (tf_yes hall.out).symm, HB.out⟩
    have hgk := List.getElem?_eq_getElem hlt
    obtain ⟨b1, off, cs1, hA, hb1, hcs, hcell⟩ := HX0.out k x.fNotes[k] hgk
    subst hA
    generalize hyy : x.fNotes[k] = y at *; clear hyy
    have HAY := hide (T.at_elem (o := off + k * 7) hb1 (show T.rds w y.fs cs1 by simpa only [GNote.t, T.rd] using hcs) hcell (by omega))
    have HGK := hide hgk; clear hgk hcs hcell
    have i1 : (k : Int) < (x.fNotes.length : Int) := by omega
    by_cases h2 : NoteOk y
    rotate_left
    ·
      have q1 := tf_no h2; have H2 := hide h2; clear h2
      go_wp2
      have g0 := bel_cell p0; clear p0
      refine wp_region_bel (by kernel_rfl) (by kernel_rfl) ?_
      repeat (first | go_big_quiet_skip | (go_big_quiet_want; go_big_quiet_op; first | go_big_quiet_on | (apply Exists.intro; refine ⟨fun _ => ?_, ?_⟩; (· (first | (go_at_call 135; exact Calls.quiet_bel ((c_l18Note y _ _ _ (T.at_below HAY.out (bthen HB.out HB.out.size (bel_below wr _)))).mono (fun e w' h => by (first | rw [q1] at h | skip); exact h))))); go_big_quiet_on)))
      refine wpQuiet_nil ?_
      rintro w9 ⟨uu, rfl⟩
      have hb9 := bel_below wr uu
      generalize bel wr uu = w9 at *
      have HB9 := hide (bthen HB.out HB.out.size hb9); clear hb9 g0
      go_wp2
      go_ret
      exact ⟨ret_bool (tf_no (fun h => H2.out ((HSC.out.1 h).2.1 k y HGK.out))).symm, HB9.out⟩
    have q1 := tf_yes h2; have H2 := hide h2; clear h2
    by_cases hk0 : k = 0
    ·
      have g_ : decide (0 < k) = false := decide_eq_false (by omega)
      have K0 := hide hk0; clear hk0
      go_wp2
      have g0 := bel_cell p0; clear p0
      refine wp_region_bel (by kernel_rfl) (by kernel_rfl) ?_
      repeat (first | go_big_quiet_skip | (go_big_quiet_want; go_big_quiet_op; first | go_big_quiet_on | (apply Exists.intro; refine ⟨fun _ => ?_, ?_⟩; (· (first | (go_at_call 135; exact Calls.quiet_bel ((c_l18Note y _ _ _ (T.at_below HAY.out (bthen HB.out HB.out.size (bel_below wr _)))).mono (fun e w' h => by (first | rw [q1] at h | skip); exact h))))); go_big_quiet_on)))
      refine wpQuiet_nil ?_
      rintro w9 ⟨uu, rfl⟩
      have hb9 := bel_below wr uu
      generalize bel wr uu = w9 at *
      have HB9 := hide (bthen HB.out HB.out.size hb9); clear hb9 g0
      go_wp2
      go_roundw
      case rel => exact ⟨k + 1, by omega, by go_num, HS.out.step HGK.out H2.out, HS2.out.step HGK.out (fun p h0 _ => by have := K0.out; omega), HB9.out⟩
      case measure => simp [intOf]; omega
    obtain ⟨j, rfl⟩ : ∃ j, k = j + 1 := ⟨k - 1, by omega⟩
    clear hk0
    have hwj : IntKind.i64.wrap (((j + 1 : Nat) : Int) - 1) = (j : Int) := by rw [show ((j + 1 : Nat) : Int) - 1 = (j : Int) by omega]; exact IntWalk.i64_in _ (by omega)
    have hgj := List.getElem?_eq_getElem (show j < x.fNotes.length by omega)
    obtain ⟨b2, off2, cs2, hA2, hb2, hcs2, hcell2⟩ := HX0.out j x.fNotes[j] hgj
    obtain ⟨rfl, rfl⟩ : b1 = b2 ∧ off = off2 := by injection hA2 with hA2; injection hA2 with e1 e2; exact ⟨e1, e2⟩
    clear hA2
    generalize x.fNotes[j] = z at *
    have HAZ := hide (T.at_elem (o := off + j * 7) hb2 (show T.rds w z.fs cs2 by simpa only [GNote.t, T.rd] using hcs2) hcell2 (by omega))
    have HZ := hide (HS.out _ _ (by omega) hgj); have HGJ := hide hgj; clear hgj hcs2 hcell2
    have i0 : (j : Int) < (x.fNotes.length : Int) := by omega
    obtain ⟨cc, hcc⟩ : ∃ cc, cmpNote z y = cc := ⟨_, rfl⟩
    have CP := hide (fun W (hb : Below w.heap.size w W) => (by have := c_l18Order z y b1 (off + j * 7) b1 (off + (j + 1) * 7) W HZ.out H2.out (T.at_below HAZ.out hb) (T.at_below HAY.out hb); rw [hcc] at this; exact this : Calls Tryz.prog 136 #[.pointer (some ⟨b1, off + j * 7, none⟩), .pointer (some ⟨b1, off + (j + 1) * 7, none⟩)] W fun e w' => e = .returned (.int .i64 cc) ∧ Below W.heap.size W w'))
    have HCK := hide hcc; clear hcc
    by_cases h3 : cc < 0
    rotate_left
    ·
      have k3 : decide ((0 : Int) ≤ cc) = true := decide_eq_true (by omega)
      have H3 := hide h3; clear h3
      go_wp2
      have g0 := bel_cell p0; clear p0
      refine wp_region_bel (by kernel_rfl) (by kernel_rfl) ?_
      repeat (first | go_big_quiet_skip | (go_big_quiet_want; go_big_quiet_op; first | go_big_quiet_on | (apply Exists.intro; refine ⟨fun _ => ?_, ?_⟩; (· (first | (go_at_call 135; exact Calls.quiet_bel ((c_l18Note y _ _ _ (T.at_below HAY.out (bthen HB.out HB.out.size (bel_below wr _)))).mono (fun e w' h => by (first | rw [q1] at h | skip); exact h))) | (go_at_call 136; exact Calls.quiet_bel (CP.out _ (bthen HB.out HB.out.size (bel_below wr _)))))); go_big_quiet_on)))
      refine wpQuiet_nil ?_
      rintro w9 ⟨uu, rfl⟩
      have hb9 := bel_below wr uu
      generalize bel wr uu = w9 at *
      have HB9 := hide (bthen HB.out HB.out.size hb9); clear hb9 g0
      go_wp2
      go_ret
      exact ⟨ret_bool (tf_no (fun h => by have a := H3.out; have b := (HSC.out.1 h).2.2 (j + 1) y HGK.out z (by omega) HGJ.out; rw [HCK.out] at b; omega)).symm, HB9.out⟩
    have k3 : decide ((0 : Int) ≤ cc) = false := decide_eq_false (by omega)
    have H3 := hide h3; clear h3
    go_wp2
    have g0 := bel_cell p0; clear p0
    refine wp_region_bel (by kernel_rfl) (by kernel_rfl) ?_
    repeat (first | go_big_quiet_skip | (go_big_quiet_want; go_big_quiet_op; first | go_big_quiet_on | (apply Exists.intro; refine ⟨fun _ => ?_, ?_⟩; (· (first | (go_at_call 135; exact Calls.quiet_bel ((c_l18Note y _ _ _ (T.at_below HAY.out (bthen HB.out HB.out.size (bel_below wr _)))).mono (fun e w' h => by (first | rw [q1] at h | skip); exact h))) | (go_at_call 136; exact Calls.quiet_bel (CP.out _ (bthen HB.out HB.out.size (bel_below wr _)))))); go_big_quiet_on)))
    refine wpQuiet_nil ?_
    rintro w9 ⟨uu, rfl⟩
    have hb9 := bel_below wr uu
    generalize bel wr uu = w9 at *
    have HB9 := hide (bthen HB.out HB.out.size hb9); clear hb9 g0
    go_wp2
    go_roundw
    case rel => exact ⟨j + 2, by omega, by go_num, HS.out.step HGK.out H2.out, HS2.out.step HGK.out (fun p _ hp => by rw [Nat.add_sub_cancel, HGJ.out] at hp; injection hp with hp; rw [← hp, HCK.out]; exact H3.out), HB9.out⟩
    case measure => simp [intOf]; omega
end Go.Proofs.YteiflbhcehajkaaGreatDoor
