/- Contracts: what is valid, by the program: well formed patches. -/
import Derived.Test.YtfifcnojkjjnkaaGreatEk
import Derived.Test.YtfifcnojkjjnkaaGreatNm
namespace Go.Proofs.YtfifcnojkjjnkaaGreat
open Go.RowKit
set_option maxHeartbeats 2000000 in
set_option maxRecDepth 20000 in
theorem c_waitsFor (x : GNode) (cs : List Value) (w : World) (h : T.rds w x.fs cs) : Calls Tryz.prog 283 #[.agg cs.toArray] w fun e w' => ∃ u, e = .returned u ∧ RdI w' u (waitsF x) ∧ Below w.heap.size w w' := by
  obtain ⟨v3, rfl, h3⟩ := GNode.rd_open h
  clear h
  have h3i := T.rd_ints.1 h3; obtain ⟨va3, vc3, rfl, vl3, vm3, vx3⟩ := h3i.open_
  have R3 := hide h3i; have HX3 := hide vx3; clear vx3 h3 h3i
  have HB0 := hide (show Below w.heap.size w (w.alloc (.cells #[.int .i64 x.fKind, .int .i64 x.fA, .int .i64 x.fB, (.slice va3 x.fFrom.length vc3)] 228)) from (Below.refl _ _).alloc (Nat.le_refl _) _)
  have HK0 := hide (Bk.born w 228 #[.int .i64 x.fKind, .int .i64 x.fA, .int .i64 x.fB, (.slice va3 x.fFrom.length vc3)])
  have HR := hide (RdI.below R3.out HB0.out)
  by_cases h6 : x.fKind = 6
  · have h6' : (x.fKind == 6) = true := beqI_t h6; have H6 := hide h6; clear h6
    go_enter Tryz.func283, Tryz.ntmps283
    go_wp2
    go_ret
    exact ⟨_, rfl, by unfold waitsF; rw [if_pos H6.out]; exact Rd.nil_ _ _, HB0.out⟩
  · have h6' : (x.fKind == 6) = false := beqI_f h6; have H6 := hide h6; clear h6
    go_enter Tryz.func283, Tryz.ntmps283
    go_wp2
    go_ret
    exact ⟨_, rfl, by unfold waitsF; rw [if_neg H6.out]; exact HR.out, HB0.out⟩
set_option maxHeartbeats 2000000 in
set_option maxRecDepth 20000 in
theorem c_isWellFormed (x : GPatch) (cs : List Value) (w : World) (h : T.rds w x.fs cs) : Calls Tryz.prog 257 #[.agg cs.toArray] w fun e w' => e = .returned (.bool (tf (FormedOk x))) ∧ Below w.heap.size w w' := by
  obtain ⟨v1, v2, v3, rfl, h1, h2, h3⟩ := GPatch.rd_open h
  clear h
  have R1 := hide h1; obtain ⟨va1, vc1, rfl, vl1, vm1, vx1⟩ := T.rd_openG h1
  have HX1 := hide vx1; clear vx1 h1
  have R2 := hide h2; obtain ⟨va2, vc2, rfl, vl2, vm2, vx2⟩ := T.rd_openG h2
  have HX2 := hide vx2; clear vx2 h2
  have h3i := T.rd_ints.1 h3; obtain ⟨va3, vc3, rfl, vl3, vm3, vx3⟩ := h3i.open_
  have R3 := hide h3i; have HX3 := hide vx3; clear vx3 h3 h3i
  have HB0 := hide (show Below w.heap.size w (w.alloc (.cells #[.int .i64 x.fInputs, (.slice va1 x.fTables.length vc1), (.slice va2 x.fNodes.length vc2), (.slice va3 x.fOutputs.length vc3)] 157)) from (Below.refl _ _).alloc (Nat.le_refl _) _)
  have HK0 := hide (Bk.born w 157 #[.int .i64 x.fInputs, (.slice va1 x.fTables.length vc1), (.slice va2 x.fNodes.length vc2), (.slice va3 x.fOutputs.length vc3)])
  go_enter Tryz.func257, Tryz.ntmps257
  by_cases q1 : inB x.fInputs 0 4 = true
  rotate_left
  · have q1' : inB x.fInputs 0 4 = false := (by simpa using q1)
    go_wp2_with (first | (go_at_call 74; refine (c_within _ _ _ _).mono ?_; rintro e w' ⟨rfl, rfl⟩) | (go_at_call 280; refine (c_sizeNode _ _ _ _ (by omega)).mono ?_; rintro e w' ⟨rfl, rfl⟩) | (go_at_call 281; refine (c_areTables _ x.fTables _ (T.rd_below R1.out HB0.out)).mono ?_; rintro e w' ⟨rfl, rfl⟩; rw [a2]) | (go_at_call 138; refine (c_size _ x.fOutputs _ (Rd.below R3.out HB0.out)).mono ?_; rintro e w' ⟨rfl, rfl⟩) | (go_at_call 140; refine (c_areIndices _ x.fOutputs _ _ (Rd.below R3.out HB0.out) (by omega) (by omega)).mono ?_; rintro e w' ⟨rfl, rfl⟩; rw [a5]))
    go_ret
    exact ⟨ret_bool (tf_no fun h => q1 h.inputs).symm, HB0.out⟩
  skip
  by_cases q2 : TablesOk x.fTables
  rotate_left
  · have a2 := tf_no q2; have Q2 := hide q2; clear q2
    go_wp2_with (first | (go_at_call 74; refine (c_within _ _ _ _).mono ?_; rintro e w' ⟨rfl, rfl⟩) | (go_at_call 280; refine (c_sizeNode _ _ _ _ (by omega)).mono ?_; rintro e w' ⟨rfl, rfl⟩) | (go_at_call 281; refine (c_areTables _ x.fTables _ (T.rd_below R1.out HB0.out)).mono ?_; rintro e w' ⟨rfl, rfl⟩; rw [a2]) | (go_at_call 138; refine (c_size _ x.fOutputs _ (Rd.below R3.out HB0.out)).mono ?_; rintro e w' ⟨rfl, rfl⟩) | (go_at_call 140; refine (c_areIndices _ x.fOutputs _ _ (Rd.below R3.out HB0.out) (by omega) (by omega)).mono ?_; rintro e w' ⟨rfl, rfl⟩; rw [a5]))
    go_ret
    exact ⟨ret_bool (tf_no fun h => Q2.out h.tables).symm, HB0.out⟩
  have a2 := tf_yes q2; have Q2 := hide q2; clear q2
  by_cases q3 : x.fNodes.length ≤ 24
  rotate_left
  · have Q3 := hide q3
    go_wp2_with (first | (go_at_call 74; refine (c_within _ _ _ _).mono ?_; rintro e w' ⟨rfl, rfl⟩) | (go_at_call 280; refine (c_sizeNode _ _ _ _ (by omega)).mono ?_; rintro e w' ⟨rfl, rfl⟩) | (go_at_call 281; refine (c_areTables _ x.fTables _ (T.rd_below R1.out HB0.out)).mono ?_; rintro e w' ⟨rfl, rfl⟩; rw [a2]) | (go_at_call 138; refine (c_size _ x.fOutputs _ (Rd.below R3.out HB0.out)).mono ?_; rintro e w' ⟨rfl, rfl⟩) | (go_at_call 140; refine (c_areIndices _ x.fOutputs _ _ (Rd.below R3.out HB0.out) (by omega) (by omega)).mono ?_; rintro e w' ⟨rfl, rfl⟩; rw [a5]))
    go_ret
    exact ⟨ret_bool (tf_no fun h => q3 h.few).symm, HB0.out⟩
  have Q3 := hide q3
  by_cases q4 : x.fOutputs.length ≤ 4
  rotate_left
  · have Q4 := hide q4
    go_wp2_with (first | (go_at_call 74; refine (c_within _ _ _ _).mono ?_; rintro e w' ⟨rfl, rfl⟩) | (go_at_call 280; refine (c_sizeNode _ _ _ _ (by omega)).mono ?_; rintro e w' ⟨rfl, rfl⟩) | (go_at_call 281; refine (c_areTables _ x.fTables _ (T.rd_below R1.out HB0.out)).mono ?_; rintro e w' ⟨rfl, rfl⟩; rw [a2]) | (go_at_call 138; refine (c_size _ x.fOutputs _ (Rd.below R3.out HB0.out)).mono ?_; rintro e w' ⟨rfl, rfl⟩) | (go_at_call 140; refine (c_areIndices _ x.fOutputs _ _ (Rd.below R3.out HB0.out) (by omega) (by omega)).mono ?_; rintro e w' ⟨rfl, rfl⟩; rw [a5]))
    go_ret
    exact ⟨ret_bool (tf_no fun h => q4 h.outs).symm, HB0.out⟩
  have Q4 := hide q4
  by_cases q5 : Idx x.fOutputs (x.fNodes.length : Int)
  rotate_left
  · have a5 := tf_no q5; have Q5 := hide q5; clear q5
    go_wp2_with (first | (go_at_call 74; refine (c_within _ _ _ _).mono ?_; rintro e w' ⟨rfl, rfl⟩) | (go_at_call 280; refine (c_sizeNode _ _ _ _ (by omega)).mono ?_; rintro e w' ⟨rfl, rfl⟩) | (go_at_call 281; refine (c_areTables _ x.fTables _ (T.rd_below R1.out HB0.out)).mono ?_; rintro e w' ⟨rfl, rfl⟩; rw [a2]) | (go_at_call 138; refine (c_size _ x.fOutputs _ (Rd.below R3.out HB0.out)).mono ?_; rintro e w' ⟨rfl, rfl⟩) | (go_at_call 140; refine (c_areIndices _ x.fOutputs _ _ (Rd.below R3.out HB0.out) (by omega) (by omega)).mono ?_; rintro e w' ⟨rfl, rfl⟩; rw [a5]))
    go_ret
    exact ⟨ret_bool (tf_no fun h => Q5.out h.outputs).symm, HB0.out⟩
  have a5 := tf_yes q5; have Q5 := hide q5; clear q5
  go_wp2_with (first | (go_at_call 74; refine (c_within _ _ _ _).mono ?_; rintro e w' ⟨rfl, rfl⟩) | (go_at_call 280; refine (c_sizeNode _ _ _ _ (by omega)).mono ?_; rintro e w' ⟨rfl, rfl⟩) | (go_at_call 281; refine (c_areTables _ x.fTables _ (T.rd_below R1.out HB0.out)).mono ?_; rintro e w' ⟨rfl, rfl⟩; rw [a2]) | (go_at_call 138; refine (c_size _ x.fOutputs _ (Rd.below R3.out HB0.out)).mono ?_; rintro e w' ⟨rfl, rfl⟩) | (go_at_call 140; refine (c_areIndices _ x.fOutputs _ _ (Rd.below R3.out HB0.out) (by omega) (by omega)).mono ?_; rintro e w' ⟨rfl, rfl⟩; rw [a5]))
  clear a2 a5
  go_loopw [39] (fun i wr => ∃ k : Nat, k ≤ x.fNodes.length ∧ i = .int .i64 k ∧ Upto x.fNodes (fun _ x_1 => NodeOk x_1 (x.fTables.length : Int) ∧ Idx x_1.fFrom (x.fNodes.length : Int) ∧ (x_1.fKind = 1 → x_1.fA < x.fInputs)) k ∧ Below (w.alloc (.cells #[.int .i64 x.fInputs, (.slice va1 x.fTables.length vc1), (.slice va2 x.fNodes.length vc2), (.slice va3 x.fOutputs.length vc3)] 157)).heap.size (w.alloc (.cells #[.int .i64 x.fInputs, (.slice va1 x.fTables.length vc1), (.slice va2 x.fNodes.length vc2), (.slice va3 x.fOutputs.length vc3)] 157)) wr) (fun i _ => x.fNodes.length - (intOf i).toNat)
  case atStart => exact ⟨0, Nat.zero_le _, rfl, Upto.zero, Below.refl _ _⟩
  case round =>
    obtain ⟨k, hk, rfl, hs, hbw⟩ := hrel
    have HS := hide hs; have HW := hide hbw; have HB := hide (bthen HB0.out HB0.out.size hbw); have HK := hide (HK0.out.below hbw HK0.out.lt); clear hs hbw
    have ka := HK.out.cell; have la := HK.out.lt
    by_cases hlt : k < x.fNodes.length
    rotate_left
    · have hall := hide (HS.out.all (by omega)); clear HS
      go_wp2
      go_ret
      exact ⟨ret_bool (tf_yes ⟨q1, Q2.out, Q3.out, Q4.out, Q5.out, hall.out⟩).symm, HB.out⟩
    have hgk := List.getElem?_eq_getElem hlt
    obtain ⟨b1, off, cs1, hA, hb1, hcs, hcell⟩ := HX2.out k x.fNodes[k] hgk
    subst hA
    generalize x.fNodes[k] = y at *
    have HG := hide hgk; clear hgk
    obtain ⟨u3, rfl, hRY3⟩ := GNode.rd_open (show T.rds _ _ _ by simpa only [GNode.t, T.rd] using hcs)
    have d0 := (HB.out.cell hb1).trans (hcell 0 (.int .i64 y.fKind) rfl)
    have d1 := (HB.out.cell hb1).trans (hcell 1 (.int .i64 y.fA) rfl)
    have d2 := (HB.out.cell hb1).trans (hcell 2 (.int .i64 y.fB) rfl)
    have d3 := (HB.out.cell hb1).trans (hcell 3 (u3) rfl)
    rw [show off + (k * 4 + 0) = off + k * 4 by omega] at d0
    rw [show off + (k * 4 + 1) = off + k * 4 + 1 by omega] at d1
    rw [show off + (k * 4 + 2) = off + k * 4 + 2 by omega] at d2
    rw [show off + (k * 4 + 3) = off + k * 4 + 3 by omega] at d3
    have RY3 := hide (T.rd_below hRY3 HB.out); clear hRY3
    clear hcs hcell
    have RY3i := hide (T.rd_ints.1 RY3.out); obtain ⟨ua3, uc3, rfl, ul3, um3, ux3⟩ := RY3i.out.open_; clear ux3
    have hq1 : b1 < wr.heap.size := Nat.lt_of_lt_of_le hb1 HB.out.size
    by_cases p1 : NodeOk y (x.fTables.length : Int)
    rotate_left
    · have b1' := tf_no p1; have P1 := hide p1; clear p1
      have hWb : Below wr.heap.size wr (wr.alloc (.cells #[.int .i64 y.fKind, .int .i64 y.fA, .int .i64 y.fB, (.slice ua3 y.fFrom.length uc3)] 228)) := (Below.refl _ _).alloc (Nat.le_refl _) _
      have hNb := Bk.born wr 228 #[.int .i64 y.fKind, .int .i64 y.fA, .int .i64 y.fB, (.slice ua3 y.fFrom.length uc3)]
      go_wp2
      generalize wr.alloc (.cells #[.int .i64 y.fKind, .int .i64 y.fA, .int .i64 y.fB, (.slice ua3 y.fFrom.length uc3)] 228) = W at *
      have HWb := hide hWb; have HNb := hide hNb; have HKW := hide (HK.out.below hWb HK.out.lt)
      have g0 := bel_bk hNb; have g1 := bel_bk HKW.out
      clear hWb hNb
      refine wp_region_bel (by kernel_rfl) (by kernel_rfl) ?_
      repeat (first | go_big_quiet_skip | (go_big_quiet_want; go_big_quiet_op; first | go_big_quiet_on | (apply Exists.intro; refine ⟨fun _ => ?_, ?_⟩; (· (first | (go_at_call 162; exact Calls.quiet_bel_same (c_sizeLL _ _ _ _ (by omega))) | (go_at_call 282; exact Calls.quiet_bel ((c_isNode y _ _ _ (GNode.rd_mk (T.rd_below RY3.out (bthen HWb.out HWb.out.size (bel_below W _))))).mono (fun e w' h => by rw [b1'] at h; exact h))) | (go_at_call 140; exact Calls.quiet_bel_same ((c_areIndices _ y.fFrom _ _ (Rd.below RY3i.out (bthen HWb.out HWb.out.size (bel_below W _))) (by omega) (by omega)).mono (fun e w' h => by rw [b2'] at h; exact h))))); go_big_quiet_on)))
      refine wpQuiet_nil ?_
      rintro w9 ⟨uu, rfl⟩
      have hb9 := bel_below W uu
      generalize bel W uu = w9 at *
      have HC := hide (bthen HWb.out HWb.out.size hb9); have HC2 := hide (bthen HB.out HB.out.size HC.out); have HC3 := hide (bthen HW.out HW.out.size HC.out)
      clear hb9 g0 g1
      go_wp2
      go_ret
      exact ⟨ret_bool (tf_no fun h => P1.out (h.nodes k y HG.out).1).symm, HC2.out⟩
    have b1' := tf_yes p1; have P1 := hide p1; clear p1
    by_cases p2 : Idx y.fFrom (x.fNodes.length : Int)
    rotate_left
    · have b2' := tf_no p2; have P2 := hide p2; clear p2
      have hWb : Below wr.heap.size wr (wr.alloc (.cells #[.int .i64 y.fKind, .int .i64 y.fA, .int .i64 y.fB, (.slice ua3 y.fFrom.length uc3)] 228)) := (Below.refl _ _).alloc (Nat.le_refl _) _
      have hNb := Bk.born wr 228 #[.int .i64 y.fKind, .int .i64 y.fA, .int .i64 y.fB, (.slice ua3 y.fFrom.length uc3)]
      go_wp2
      generalize wr.alloc (.cells #[.int .i64 y.fKind, .int .i64 y.fA, .int .i64 y.fB, (.slice ua3 y.fFrom.length uc3)] 228) = W at *
      have HWb := hide hWb; have HNb := hide hNb; have HKW := hide (HK.out.below hWb HK.out.lt)
      have g0 := bel_bk hNb; have g1 := bel_bk HKW.out
      clear hWb hNb
      refine wp_region_bel (by kernel_rfl) (by kernel_rfl) ?_
      repeat (first | go_big_quiet_skip | (go_big_quiet_want; go_big_quiet_op; first | go_big_quiet_on | (apply Exists.intro; refine ⟨fun _ => ?_, ?_⟩; (· (first | (go_at_call 162; exact Calls.quiet_bel_same (c_sizeLL _ _ _ _ (by omega))) | (go_at_call 282; exact Calls.quiet_bel ((c_isNode y _ _ _ (GNode.rd_mk (T.rd_below RY3.out (bthen HWb.out HWb.out.size (bel_below W _))))).mono (fun e w' h => by rw [b1'] at h; exact h))) | (go_at_call 140; exact Calls.quiet_bel_same ((c_areIndices _ y.fFrom _ _ (Rd.below RY3i.out (bthen HWb.out HWb.out.size (bel_below W _))) (by omega) (by omega)).mono (fun e w' h => by rw [b2'] at h; exact h))))); go_big_quiet_on)))
      refine wpQuiet_nil ?_
      rintro w9 ⟨uu, rfl⟩
      have hb9 := bel_below W uu
      generalize bel W uu = w9 at *
      have HC := hide (bthen HWb.out HWb.out.size hb9); have HC2 := hide (bthen HB.out HB.out.size HC.out); have HC3 := hide (bthen HW.out HW.out.size HC.out)
      clear hb9 g0 g1
      go_wp2
      go_ret
      exact ⟨ret_bool (tf_no fun h => P2.out (h.nodes k y HG.out).2.1).symm, HC2.out⟩
    have b2' := tf_yes p2; have P2 := hide p2; clear p2
    by_cases p3 : y.fKind = 1
    rotate_left
    · have p3' : (y.fKind == 1) = false := beqI_f p3; have P3 := hide p3; clear p3
      have hWb : Below wr.heap.size wr (wr.alloc (.cells #[.int .i64 y.fKind, .int .i64 y.fA, .int .i64 y.fB, (.slice ua3 y.fFrom.length uc3)] 228)) := (Below.refl _ _).alloc (Nat.le_refl _) _
      have hNb := Bk.born wr 228 #[.int .i64 y.fKind, .int .i64 y.fA, .int .i64 y.fB, (.slice ua3 y.fFrom.length uc3)]
      go_wp2
      generalize wr.alloc (.cells #[.int .i64 y.fKind, .int .i64 y.fA, .int .i64 y.fB, (.slice ua3 y.fFrom.length uc3)] 228) = W at *
      have HWb := hide hWb; have HNb := hide hNb; have HKW := hide (HK.out.below hWb HK.out.lt)
      have g0 := bel_bk hNb; have g1 := bel_bk HKW.out
      clear hWb hNb
      refine wp_region_bel (by kernel_rfl) (by kernel_rfl) ?_
      repeat (first | go_big_quiet_skip | (go_big_quiet_want; go_big_quiet_op; first | go_big_quiet_on | (apply Exists.intro; refine ⟨fun _ => ?_, ?_⟩; (· (first | (go_at_call 162; exact Calls.quiet_bel_same (c_sizeLL _ _ _ _ (by omega))) | (go_at_call 282; exact Calls.quiet_bel ((c_isNode y _ _ _ (GNode.rd_mk (T.rd_below RY3.out (bthen HWb.out HWb.out.size (bel_below W _))))).mono (fun e w' h => by rw [b1'] at h; exact h))) | (go_at_call 140; exact Calls.quiet_bel_same ((c_areIndices _ y.fFrom _ _ (Rd.below RY3i.out (bthen HWb.out HWb.out.size (bel_below W _))) (by omega) (by omega)).mono (fun e w' h => by rw [b2'] at h; exact h))))); go_big_quiet_on)))
      refine wpQuiet_nil ?_
      rintro w9 ⟨uu, rfl⟩
      have hb9 := bel_below W uu
      generalize bel W uu = w9 at *
      have HC := hide (bthen HWb.out HWb.out.size hb9); have HC2 := hide (bthen HB.out HB.out.size HC.out); have HC3 := hide (bthen HW.out HW.out.size HC.out)
      clear hb9 g0 g1
      go_wp2
      go_roundw
      case rel => exact ⟨k + 1, by omega, by go_num, HS.out.step HG.out ⟨P1.out, P2.out, fun h => absurd h P3.out⟩, HC3.out⟩
      case measure => simp [intOf]; omega
    have p3' : (y.fKind == 1) = true := beqI_t p3; have P3 := hide p3; clear p3
    by_cases p4 : x.fInputs ≤ y.fA
    · have p4' : decide (x.fInputs ≤ y.fA) = true := decide_eq_true p4; have P4 := hide p4
      have hWb : Below wr.heap.size wr (wr.alloc (.cells #[.int .i64 y.fKind, .int .i64 y.fA, .int .i64 y.fB, (.slice ua3 y.fFrom.length uc3)] 228)) := (Below.refl _ _).alloc (Nat.le_refl _) _
      have hNb := Bk.born wr 228 #[.int .i64 y.fKind, .int .i64 y.fA, .int .i64 y.fB, (.slice ua3 y.fFrom.length uc3)]
      go_wp2
      generalize wr.alloc (.cells #[.int .i64 y.fKind, .int .i64 y.fA, .int .i64 y.fB, (.slice ua3 y.fFrom.length uc3)] 228) = W at *
      have HWb := hide hWb; have HNb := hide hNb; have HKW := hide (HK.out.below hWb HK.out.lt)
      have g0 := bel_bk hNb; have g1 := bel_bk HKW.out
      clear hWb hNb
      refine wp_region_bel (by kernel_rfl) (by kernel_rfl) ?_
      repeat (first | go_big_quiet_skip | (go_big_quiet_want; go_big_quiet_op; first | go_big_quiet_on | (apply Exists.intro; refine ⟨fun _ => ?_, ?_⟩; (· (first | (go_at_call 162; exact Calls.quiet_bel_same (c_sizeLL _ _ _ _ (by omega))) | (go_at_call 282; exact Calls.quiet_bel ((c_isNode y _ _ _ (GNode.rd_mk (T.rd_below RY3.out (bthen HWb.out HWb.out.size (bel_below W _))))).mono (fun e w' h => by rw [b1'] at h; exact h))) | (go_at_call 140; exact Calls.quiet_bel_same ((c_areIndices _ y.fFrom _ _ (Rd.below RY3i.out (bthen HWb.out HWb.out.size (bel_below W _))) (by omega) (by omega)).mono (fun e w' h => by rw [b2'] at h; exact h))))); go_big_quiet_on)))
      refine wpQuiet_nil ?_
      rintro w9 ⟨uu, rfl⟩
      have hb9 := bel_below W uu
      generalize bel W uu = w9 at *
      have HC := hide (bthen HWb.out HWb.out.size hb9); have HC2 := hide (bthen HB.out HB.out.size HC.out); have HC3 := hide (bthen HW.out HW.out.size HC.out)
      clear hb9 g0 g1
      go_wp2
      go_ret
      exact ⟨ret_bool (tf_no fun h => by have := (h.nodes k y HG.out).2.2 P3.out; have := P4.out; omega).symm, HC2.out⟩
    have p4' : decide (x.fInputs ≤ y.fA) = false := decide_eq_false p4; have P4 := hide p4
    have hWb : Below wr.heap.size wr (wr.alloc (.cells #[.int .i64 y.fKind, .int .i64 y.fA, .int .i64 y.fB, (.slice ua3 y.fFrom.length uc3)] 228)) := (Below.refl _ _).alloc (Nat.le_refl _) _
    have hNb := Bk.born wr 228 #[.int .i64 y.fKind, .int .i64 y.fA, .int .i64 y.fB, (.slice ua3 y.fFrom.length uc3)]
    go_wp2
    generalize wr.alloc (.cells #[.int .i64 y.fKind, .int .i64 y.fA, .int .i64 y.fB, (.slice ua3 y.fFrom.length uc3)] 228) = W at *
    have HWb := hide hWb; have HNb := hide hNb; have HKW := hide (HK.out.below hWb HK.out.lt)
    have g0 := bel_bk hNb; have g1 := bel_bk HKW.out
    clear hWb hNb
    refine wp_region_bel (by kernel_rfl) (by kernel_rfl) ?_
    repeat (first | go_big_quiet_skip | (go_big_quiet_want; go_big_quiet_op; first | go_big_quiet_on | (apply Exists.intro; refine ⟨fun _ => ?_, ?_⟩; (· (first | (go_at_call 162; exact Calls.quiet_bel_same (c_sizeLL _ _ _ _ (by omega))) | (go_at_call 282; exact Calls.quiet_bel ((c_isNode y _ _ _ (GNode.rd_mk (T.rd_below RY3.out (bthen HWb.out HWb.out.size (bel_below W _))))).mono (fun e w' h => by rw [b1'] at h; exact h))) | (go_at_call 140; exact Calls.quiet_bel_same ((c_areIndices _ y.fFrom _ _ (Rd.below RY3i.out (bthen HWb.out HWb.out.size (bel_below W _))) (by omega) (by omega)).mono (fun e w' h => by rw [b2'] at h; exact h))))); go_big_quiet_on)))
    refine wpQuiet_nil ?_
    rintro w9 ⟨uu, rfl⟩
    have hb9 := bel_below W uu
    generalize bel W uu = w9 at *
    have HC := hide (bthen HWb.out HWb.out.size hb9); have HC2 := hide (bthen HB.out HB.out.size HC.out); have HC3 := hide (bthen HW.out HW.out.size HC.out)
    clear hb9 g0 g1
    go_wp2
    go_roundw
    case rel => exact ⟨k + 1, by omega, by go_num, HS.out.step HG.out ⟨P1.out, P2.out, fun _ => by have := P4.out; omega⟩, HC3.out⟩
    case measure => simp [intOf]; omega
end Go.Proofs.YtfifcnojkjjnkaaGreat
