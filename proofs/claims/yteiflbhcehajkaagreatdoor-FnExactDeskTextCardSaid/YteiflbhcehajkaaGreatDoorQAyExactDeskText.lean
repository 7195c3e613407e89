/- Contract: isTuning, program. -/
import Derived.Test.YteiflbhcehajkaaGreatDoorQAtExactDeskText
import Derived.Test.YteiflbhcehajkaaGreatDoorQAvExactDeskText
import Derived.Test.YteiflbhcehajkaaGreatDoorQAoExactDeskText
import Derived.Test.YteiflbhcehajkaaGreatDoorQAjExactDeskText
set_option linter.unusedVariables false
set_option linter.unusedSimpArgs false
namespace Go.Proofs.YteiflbhcehajkaaGreatDoor
open Go.RowKit
theorem c_sizeFrac (A : Option Addr) (n c : Nat) (w : World) (h : n ≤ 9223372036854775807) : Calls Tryz.prog 46 #[.slice A n c] w fun e w' => e = .returned (.int .i64 (n : Int)) ∧ w = w' := by
  go_enter Tryz.func46, Tryz.ntmps46
  go_wp2
  go_ret
  exact ⟨rfl, rfl⟩
def TuneE (t : GTuning) (i : Nat) (r : GFrac) : Prop := cmpFr r t.fOctave < 0 ∧ ∀ p, 0 < i → t.fRatios[i - 1]? = some p → cmpFr p r < 0
theorem TuningOk.iff {t : GTuning} : TuningOk t ↔ (fracOk t.fBase ∧ fracOk t.fOctave) ∧ (Each t.fRatios fun _ r => fracOk r) ∧ 0 < t.fBase.fNum ∧ 0 < cmpFr t.fOctave ⟨1, 1⟩ ∧ (1 ≤ t.fRatios.length ∧ t.fRatios.length ≤ 24) ∧ t.fRatios.getD 0 zeroFr = ⟨1, 1⟩ ∧ Each t.fRatios (TuneE t) :=
  ⟨fun h => ⟨⟨h.base, h.octave⟩, fun i r hr => (h.each i r hr).1.1, h.pos, h.wide, ⟨h.some_, h.few⟩, h.first, fun i r hr => ⟨(h.each i r hr).1.2, (h.each i r hr).2⟩⟩,
   fun ⟨⟨a, b⟩, c, d, e, ⟨f, g⟩, h, k⟩ => ⟨a, b, d, e, f, g, h, fun i r hr => ⟨⟨c i r hr, (k i r hr).1⟩, (k i r hr).2⟩⟩⟩
theorem each2 {x y : GFrac} : (Each [x, y] fun _ f => fracOk f) ↔ fracOk x ∧ fracOk y :=
  ⟨fun h => ⟨h 0 x rfl, h 1 y rfl⟩, fun ⟨h1, h2⟩ i f hf => by
    rcases i with _ | _ | i
    · obtain rfl : x = f := by simpa using hf
      exact h1
    · obtain rfl : y = f := by simpa using hf
      exact h2
    · simp at hf⟩
set_option maxHeartbeats 4000000 in
set_option maxRecDepth 100000 in
theorem c_isTuning (x : GTuning) (cs : List Value) (w : World) (h : T.rds w x.fs cs) : Calls Tryz.prog 99 #[.agg cs.toArray] w fun e w' => e = .returned (.bool (tf (TuningOk x))) ∧ Below w.heap.size w w' := by
  obtain ⟨v4, rfl, h4⟩ := GTuning.rd_open h
  clear h
  have R4 := hide h4; obtain ⟨va4, vc4, rfl, vl4, vm4, vx4⟩ := T.rd_openG h4
  have HX4 := hide vx4; clear vx4 h4
  have HB0 := hide (show Below w.heap.size w (w.alloc (.cells #[.int .i64 x.fBase.fNum, .int .i64 x.fBase.fDen, .int .i64 x.fOctave.fNum, .int .i64 x.fOctave.fDen, (.slice va4 x.fRatios.length vc4)] 67)) from (Below.refl _ _).alloc (Nat.le_refl _) _)
  have HK0 := hide (Bk.born w 67 #[.int .i64 x.fBase.fNum, .int .i64 x.fBase.fDen, .int .i64 x.fOctave.fNum, .int .i64 x.fOctave.fDen, (.slice va4 x.fRatios.length vc4)])
  have HTI := hide (@TuningOk.iff x)
  have hln : x.fRatios.length ≤ 9223372036854775807 := by have := vl4; have := vm4; omega
  obtain ⟨B1, hB1⟩ : ∃ B, tf (Each [x.fBase, x.fOctave] fun _ f => fracOk f) = B := ⟨_, rfl⟩
  go_enter Tryz.func99, Tryz.ntmps99
  go_wp2
  generalize (w.alloc (.cells #[.int .i64 x.fBase.fNum, .int .i64 x.fBase.fDen, .int .i64 x.fOctave.fNum, .int .i64 x.fOctave.fDen, (.slice va4 x.fRatios.length vc4)] 67)) = W0 at *
  have HBd := hide HB0.out.drew; have HKd := hide (Bk.drew HK0.out)
  refine wp_region_N (fun w' => (∀ i, w'.cell? ⟨w.heap.size, i, none⟩ = #[.int .i64 x.fBase.fNum, .int .i64 x.fBase.fDen, .int .i64 x.fOctave.fNum, .int .i64 x.fOctave.fDen, (.slice va4 x.fRatios.length vc4)][i]?)) [6, 7, 8, 9, 10, 11, 12, 13, 14, 15, 16, 17, 18, 19, 20, 21, 22, 23, 24, 25, 26, 27, 28, 29, 30, 31, 32, 33, 34, 35, 36, 37, 38, 39, 40] (by kernel_rfl) ?_ (fun hS0 => ?_)
  · exact HKd.out.cell
  generalize W0.drew = Wd at *
  refine wpAnyN_takeL (i := 0) (oi := _) (v := ?v19) (by kernel_rfl) (by kernel_rfl) rfl (by kernel_rfl) (by kernel_rfl) (by kernel_rfl) (fun _ _ _ h => h) hS0 (by rfl) ?hy19 ?rest19
  case hy19 => (intro w hSw; (try dsimp only at hSw); first | (go_simp; done) | (go_simp; with_reducible rfl))
  try simp only [Act.put, List.setIfInBounds_toArray, List.set_cons_zero, List.set_cons_succ]
  refine wpAnyN_takeL (i := 1) (oi := _) (v := ?v20) (by kernel_rfl) (by kernel_rfl) rfl (by kernel_rfl) (by kernel_rfl) (by kernel_rfl) (fun _ _ _ h => h) hS0 (by rfl) ?hy20 ?rest20
  case hy20 => (intro w hSw; (try dsimp only at hSw); first | (go_simp; done) | (go_simp; with_reducible rfl))
  try simp only [Act.put, List.setIfInBounds_toArray, List.set_cons_zero, List.set_cons_succ]
  refine wpAnyN_takeL (i := 2) (oi := _) (v := ?v21) (by kernel_rfl) (by kernel_rfl) rfl (by kernel_rfl) (by kernel_rfl) (by kernel_rfl) (fun _ _ _ h => h) hS0 (by rfl) ?hy21 ?rest21
  case hy21 => (intro w hSw; (try dsimp only at hSw); first | (go_simp; done) | (go_simp; with_reducible rfl))
  try simp only [Act.put, List.setIfInBounds_toArray, List.set_cons_zero, List.set_cons_succ]
  refine wpAnyN_takeL (i := 3) (oi := _) (v := ?v22) (by kernel_rfl) (by kernel_rfl) rfl (by kernel_rfl) (by kernel_rfl) (by kernel_rfl) (fun _ _ _ h => h) hS0 (by rfl) ?hy22 ?rest22
  case hy22 => (intro w hSw; (try dsimp only at hSw); first | (go_simp; done) | (go_simp; with_reducible rfl))
  try simp only [Act.put, List.setIfInBounds_toArray, List.set_cons_zero, List.set_cons_succ]
  have HBl := hide (HBd.out.alloc HBd.out.size (.cells #[.int .i64 x.fBase.fNum, .int .i64 x.fBase.fDen, .int .i64 x.fOctave.fNum, .int .i64 x.fOctave.fDen] 64)); have HKl := hide (HKd.out.alloc (.cells #[.int .i64 x.fBase.fNum, .int .i64 x.fBase.fDen, .int .i64 x.fOctave.fNum, .int .i64 x.fOctave.fDen] 64))
  have HRD := hide (fr_rd2 (x := x.fBase) (y := x.fOctave) (Bk.born Wd 64 _))
  refine wpAnyN_one (i := 4) (o := _) (by kernel_rfl) rfl (fun K hK => ?_)
  go_simp
  refine hK.out _ _ ?_ (fun hS1 => ?_)
  · exact HKl.out.cell
  clear hK K hS0
  refine wpAnyN_one (i := 5) (o := _) (by kernel_rfl) rfl (fun K hK => ?_)
  go_simp
  go_wp2_with (go_at_call 148; refine (c_areFracs _ [x.fBase, x.fOctave] _ HRD.out).mono ?_; rintro e w1 ⟨rfl, hb⟩; rw [hB1])
  have HB1 := hide (bthen HBl.out HBl.out.size hb); have HK1 := hide (HKl.out.below hb HKl.out.lt); clear hb
  refine hK.out _ _ ?_ (fun hS2 => ?_)
  · exact HK1.out.cell
  clear hK K hS1
  try simp only [Act.put, List.setIfInBounds_toArray, List.set_cons_zero, List.set_cons_succ]
  by_cases h1 : fracOk x.fBase ∧ fracOk x.fOctave
  rotate_left
  ·
    obtain rfl : B1 = false := by rw [← hB1]; exact tf_no (fun h => h1 (each2.1 h))
    have N_ := hide h1; clear h1 hB1
    have g0 := bel_bk HK1.out
    refine wpAnyN_lex (C := fun w' => ∃ u, w' = bel w1 u) 6 _ (by kernel_rfl) (by kernel_rfl) (by rfl) (by kernel_rfl) (by kernel_rfl) ⟨_, bel_of (Below.refl _ _)⟩ ?_
    simp only [List.toList_toArray, List.drop_succ_cons, List.drop_zero]
    repeat (first | go_big_quiet_skip | (go_big_quiet_want; go_big_quiet_op; first | go_big_quiet_on | (apply Exists.intro; refine ⟨fun _ => ?_, ?_⟩; (· (fail)); go_big_quiet_on)))
    refine wpQuiet_nil ?_
    rintro w9 ⟨uu, rfl⟩
    have hb9 := bel_below w1 uu
    generalize bel w1 uu = w9 at *
    have HB9 := hide (bthen HB1.out HB1.out.size hb9); have HK9 := hide (HK1.out.below hb9 HK1.out.lt); clear hb9 g0
    have ka := HK9.out.cell; have la := HK9.out.lt
    go_wp2
    go_ret
    exact ⟨ret_bool (tf_no (fun h => N_.out (HTI.out.1 h).1)).symm, HB9.out⟩
  obtain rfl : B1 = true := by rw [← hB1]; exact tf_yes (each2.2 h1)
  have H1 := hide h1; clear h1 hB1
  by_cases h2 : Each x.fRatios fun _ r => fracOk r
  rotate_left
  ·
    have q2 := tf_no h2; have N_ := hide h2; clear h2
    have g0 := bel_bk HK1.out
    refine wpAnyN_lex (C := fun w' => ∃ u, w' = bel w1 u) 6 _ (by kernel_rfl) (by kernel_rfl) (by rfl) (by kernel_rfl) (by kernel_rfl) ⟨_, bel_of (Below.refl _ _)⟩ ?_
    simp only [List.toList_toArray, List.drop_succ_cons, List.drop_zero]
    repeat (first | go_big_quiet_skip | (go_big_quiet_want; go_big_quiet_op; first | go_big_quiet_on | (apply Exists.intro; refine ⟨fun _ => ?_, ?_⟩; (· (first | (go_at_call 148; exact Calls.quiet_bel ((c_areFracs _ x.fRatios _ (T.rd_below R4.out (bthen HB1.out HB1.out.size (bel_below w1 _)))).mono (fun e w' h => by (first | rw [q2] at h | skip); exact h))))); go_big_quiet_on)))
    refine wpQuiet_nil ?_
    rintro w9 ⟨uu, rfl⟩
    have hb9 := bel_below w1 uu
    generalize bel w1 uu = w9 at *
    have HB9 := hide (bthen HB1.out HB1.out.size hb9); have HK9 := hide (HK1.out.below hb9 HK1.out.lt); clear hb9 g0
    have ka := HK9.out.cell; have la := HK9.out.lt
    go_wp2
    go_ret
    exact ⟨ret_bool (tf_no (fun h => N_.out (HTI.out.1 h).2.1)).symm, HB9.out⟩
  have q2 := tf_yes h2; have H2 := hide h2; clear h2
  by_cases h3 : 0 < x.fBase.fNum
  rotate_left
  ·
    have q3 : decide (x.fBase.fNum ≤ 0) = true := decide_eq_true (by omega)
    have N_ := hide h3; clear h3
    have g0 := bel_bk HK1.out
    refine wpAnyN_lex (C := fun w' => ∃ u, w' = bel w1 u) 6 _ (by kernel_rfl) (by kernel_rfl) (by rfl) (by kernel_rfl) (by kernel_rfl) ⟨_, bel_of (Below.refl _ _)⟩ ?_
    simp only [List.toList_toArray, List.drop_succ_cons, List.drop_zero]
    repeat (first | go_big_quiet_skip | (go_big_quiet_want; go_big_quiet_op; first | go_big_quiet_on | (apply Exists.intro; refine ⟨fun _ => ?_, ?_⟩; (· (first | (go_at_call 148; exact Calls.quiet_bel ((c_areFracs _ x.fRatios _ (T.rd_below R4.out (bthen HB1.out HB1.out.size (bel_below w1 _)))).mono (fun e w' h => by (first | rw [q2] at h | skip); exact h))))); go_big_quiet_on)))
    refine wpQuiet_nil ?_
    rintro w9 ⟨uu, rfl⟩
    have hb9 := bel_below w1 uu
    generalize bel w1 uu = w9 at *
    have HB9 := hide (bthen HB1.out HB1.out.size hb9); have HK9 := hide (HK1.out.below hb9 HK1.out.lt); clear hb9 g0
    have ka := HK9.out.cell; have la := HK9.out.lt
    go_wp2
    go_ret
    exact ⟨ret_bool (tf_no (fun h => by have q := (HTI.out.1 h).2.2.1; have r := N_.out; omega)).symm, HB9.out⟩
  have q3 : decide (x.fBase.fNum ≤ 0) = false := decide_eq_false (by omega)
  have H3 := hide h3; clear h3
  obtain ⟨cc, hcc⟩ : ∃ cc, cmpFr x.fOctave ⟨1, 1⟩ = cc := ⟨_, rfl⟩
  have CP := hide (fun W => (by have := c_compare x.fOctave ⟨1, 1⟩ W H1.out.2 fracOk_1; rw [hcc] at this; exact this : Calls Tryz.prog 146 #[.agg #[.int .i64 x.fOctave.fNum, .int .i64 x.fOctave.fDen], .agg #[.int .i64 1, .int .i64 1]] W fun e w' => e = .returned (.int .i64 cc) ∧ Below W.heap.size W w'))
  have HCC := hide hcc; clear hcc
  by_cases h4 : 0 < cc
  rotate_left
  ·
    have q4 : decide (cc ≤ 0) = true := decide_eq_true (by omega)
    have N_ := hide h4; clear h4
    have g0 := bel_bk HK1.out
    refine wpAnyN_lex (C := fun w' => ∃ u, w' = bel w1 u) 6 _ (by kernel_rfl) (by kernel_rfl) (by rfl) (by kernel_rfl) (by kernel_rfl) ⟨_, bel_of (Below.refl _ _)⟩ ?_
    simp only [List.toList_toArray, List.drop_succ_cons, List.drop_zero]
    repeat (first | go_big_quiet_skip | (go_big_quiet_want; go_big_quiet_op; first | go_big_quiet_on | (apply Exists.intro; refine ⟨fun _ => ?_, ?_⟩; (· (first | (go_at_call 148; exact Calls.quiet_bel ((c_areFracs _ x.fRatios _ (T.rd_below R4.out (bthen HB1.out HB1.out.size (bel_below w1 _)))).mono (fun e w' h => by (first | rw [q2] at h | skip); exact h))) | (go_at_call 149; exact Calls.quiet_bel (c_whole 1 _)) | (go_at_call 146; exact Calls.quiet_bel (CP.out _)))); go_big_quiet_on)))
    refine wpQuiet_nil ?_
    rintro w9 ⟨uu, rfl⟩
    have hb9 := bel_below w1 uu
    generalize bel w1 uu = w9 at *
    have HB9 := hide (bthen HB1.out HB1.out.size hb9); have HK9 := hide (HK1.out.below hb9 HK1.out.lt); clear hb9 g0
    have ka := HK9.out.cell; have la := HK9.out.lt
    go_wp2
    go_ret
    exact ⟨ret_bool (tf_no (fun h => by have q := (HTI.out.1 h).2.2.2.1; rw [HCC.out] at q; have r := N_.out; omega)).symm, HB9.out⟩
  have q4 : decide (cc ≤ 0) = false := decide_eq_false (by omega)
  have H4 := hide h4; clear h4
  by_cases h5 : inB (x.fRatios.length : Int) 1 24 = true
  rotate_left
  ·
    have q5 : inB (x.fRatios.length : Int) 1 24 = false := (by simpa using h5); have N_ := hide h5; clear h5
    have g0 := bel_bk HK1.out
    refine wpAnyN_lex (C := fun w' => ∃ u, w' = bel w1 u) 6 _ (by kernel_rfl) (by kernel_rfl) (by rfl) (by kernel_rfl) (by kernel_rfl) ⟨_, bel_of (Below.refl _ _)⟩ ?_
    simp only [List.toList_toArray, List.drop_succ_cons, List.drop_zero]
    repeat (first | go_big_quiet_skip | (go_big_quiet_want; go_big_quiet_op; first | go_big_quiet_on | (apply Exists.intro; refine ⟨fun _ => ?_, ?_⟩; (· (first | (go_at_call 148; exact Calls.quiet_bel ((c_areFracs _ x.fRatios _ (T.rd_below R4.out (bthen HB1.out HB1.out.size (bel_below w1 _)))).mono (fun e w' h => by (first | rw [q2] at h | skip); exact h))) | (go_at_call 149; exact Calls.quiet_bel (c_whole 1 _)) | (go_at_call 146; exact Calls.quiet_bel (CP.out _)) | (go_at_call 46; exact Calls.quiet_bel_same (c_sizeFrac _ _ _ _ (by omega))) | (go_at_call 70; exact Calls.quiet_bel_same ((c_within _ _ _ _).mono (fun e w' h => by (first | rw [q5] at h | skip); exact h))))); go_big_quiet_on)))
    refine wpQuiet_nil ?_
    rintro w9 ⟨uu, rfl⟩
    have hb9 := bel_below w1 uu
    generalize bel w1 uu = w9 at *
    have HB9 := hide (bthen HB1.out HB1.out.size hb9); have HK9 := hide (HK1.out.below hb9 HK1.out.lt); clear hb9 g0
    have ka := HK9.out.cell; have la := HK9.out.lt
    go_wp2
    go_ret
    exact ⟨ret_bool (tf_no (fun h => N_.out (inB_iff.2 (by have q := (HTI.out.1 h).2.2.2.2.1; omega)))).symm, HB9.out⟩
  have q5 := h5; have k5 := inB_iff.1 h5; clear h5
  have hl0 : 0 < x.fRatios.length := by omega
  have hg0 := List.getElem?_eq_getElem hl0
  obtain ⟨b0, of0, cs0, hA0, hb0, hcs0, hcell0⟩ := HX4.out 0 x.fRatios[0] hg0
  subst hA0
  have HFI := hide (show (x.fRatios.getD 0 zeroFr) = x.fRatios[0] by rw [List.getD_eq_getElem?_getD, hg0]; rfl)
  generalize x.fRatios[0] = z at *; clear hg0
  have HBr := hide (Below.refl w.heap.size w)
  obtain rfl := GFrac.rd_open (show T.rds _ _ _ by simpa only [GFrac.t, T.rd] using hcs0)
  have p0 := (HBr.out.cell hb0).trans (hcell0 0 (.int .i64 z.fNum) rfl)
  have p1 := (HBr.out.cell hb0).trans (hcell0 1 (.int .i64 z.fDen) rfl)
  rw [show of0 + (0 * 2 + 0) = of0 by omega] at p0
  rw [show of0 + (0 * 2 + 1) = of0 + 1 by omega] at p1
  clear hcs0 hcell0
  have Z0 := hide p0; have Z1 := hide p1; clear p0 p1
  have hgd := eqg_Frac
  by_cases h6 : z = ⟨1, 1⟩
  rotate_left
  ·
    have e0 : ∀ w, (Op.equalIn 10000 64 (.agg #[.int .i64 z.fNum, .int .i64 z.fDen]) (.agg #[.int .i64 1, .int .i64 1])).run Tryz.prog w = .ok false w := by have := eq_Frac 9998 z ⟨1, 1⟩; rw [decide_eq_false h6] at this; exact this
    have N_ := hide h6; clear h6
    have g0 := bel_bk HK1.out
    have g1 := bel_cell ((HB1.out.cell hb0).trans Z0.out); have g2 := bel_cell ((HB1.out.cell hb0).trans Z1.out)
    refine wpAnyN_lex (C := fun w' => ∃ u, w' = bel w1 u) 6 _ (by kernel_rfl) (by kernel_rfl) (by rfl) (by kernel_rfl) (by kernel_rfl) ⟨_, bel_of (Below.refl _ _)⟩ ?_
    simp only [List.toList_toArray, List.drop_succ_cons, List.drop_zero]
    repeat (first | go_big_quiet_skip | (go_big_quiet_want; go_big_quiet_op; first | go_big_quiet_on | (apply Exists.intro; refine ⟨fun _ => ?_, ?_⟩; (· (first | (go_at_call 148; exact Calls.quiet_bel ((c_areFracs _ x.fRatios _ (T.rd_below R4.out (bthen HB1.out HB1.out.size (bel_below w1 _)))).mono (fun e w' h => by (first | rw [q2] at h | skip); exact h))) | (go_at_call 149; exact Calls.quiet_bel (c_whole 1 _)) | (go_at_call 146; exact Calls.quiet_bel (CP.out _)) | (go_at_call 46; exact Calls.quiet_bel_same (c_sizeFrac _ _ _ _ (by omega))) | (go_at_call 70; exact Calls.quiet_bel_same ((c_within _ _ _ _).mono (fun e w' h => by (first | rw [q5] at h | skip); exact h))))); go_big_quiet_on)))
    refine wpQuiet_nil ?_
    rintro w9 ⟨uu, rfl⟩
    have hb9 := bel_below w1 uu
    generalize bel w1 uu = w9 at *
    have HB9 := hide (bthen HB1.out HB1.out.size hb9); have HK9 := hide (HK1.out.below hb9 HK1.out.lt); clear hb9 g0 g1 g2
    have ka := HK9.out.cell; have la := HK9.out.lt
    go_wp2
    go_ret
    exact ⟨ret_bool (tf_no (fun h => N_.out (by rw [← HFI.out]; exact (HTI.out.1 h).2.2.2.2.2.1))).symm, HB9.out⟩
  have e0 : ∀ w, (Op.equalIn 10000 64 (.agg #[.int .i64 z.fNum, .int .i64 z.fDen]) (.agg #[.int .i64 1, .int .i64 1])).run Tryz.prog w = .ok true w := by have := eq_Frac 9998 z ⟨1, 1⟩; rw [decide_eq_true h6] at this; exact this
  have H6 := hide (HFI.out.trans h6); clear h6
  have g0 := bel_bk HK1.out
  have g1 := bel_cell ((HB1.out.cell hb0).trans Z0.out); have g2 := bel_cell ((HB1.out.cell hb0).trans Z1.out)
  refine wpAnyN_lex (C := fun w' => ∃ u, w' = bel w1 u) 6 _ (by kernel_rfl) (by kernel_rfl) (by rfl) (by kernel_rfl) (by kernel_rfl) ⟨_, bel_of (Below.refl _ _)⟩ ?_
  simp only [List.toList_toArray, List.drop_succ_cons, List.drop_zero]
  repeat (first | go_big_quiet_skip | (go_big_quiet_want; go_big_quiet_op; first | go_big_quiet_on | (apply Exists.intro; refine ⟨fun _ => ?_, ?_⟩; (· (first | (go_at_call 148; exact Calls.quiet_bel ((c_areFracs _ x.fRatios _ (T.rd_below R4.out (bthen HB1.out HB1.out.size (bel_below w1 _)))).mono (fun e w' h => by (first | rw [q2] at h | skip); exact h))) | (go_at_call 149; exact Calls.quiet_bel (c_whole 1 _)) | (go_at_call 146; exact Calls.quiet_bel (CP.out _)) | (go_at_call 46; exact Calls.quiet_bel_same (c_sizeFrac _ _ _ _ (by omega))) | (go_at_call 70; exact Calls.quiet_bel_same ((c_within _ _ _ _).mono (fun e w' h => by (first | rw [q5] at h | skip); exact h))))); go_big_quiet_on)))
  refine wpQuiet_nil ?_
  rintro w9 ⟨uu, rfl⟩
  have hb9 := bel_below w1 uu
  generalize bel w1 uu = w9 at *
  have HB9 := hide (bthen HB1.out HB1.out.size hb9); have HK9 := hide (HK1.out.below hb9 HK1.out.lt); clear hb9 g0 g1 g2
  have ka := HK9.out.cell; have la := HK9.out.lt
  go_wp2
  clear e0 hgd q2 q3 q4 q5 hln
  go_loopw [49] (fun i wr => ∃ k : Nat, k ≤ x.fRatios.length ∧ i = .int .i64 k ∧ Upto x.fRatios (TuneE x) k ∧ Below w9.heap.size w9 wr) (fun i _ => x.fRatios.length - (intOf i).toNat)
  case atStart => exact ⟨0, Nat.zero_le _, rfl, Upto.zero, Below.refl _ _⟩
  case round =>
    obtain ⟨k, hk, rfl, hs, hbw⟩ := hrel
    have HS := hide hs; have HW := hide hbw; have HB := hide (bthen HB9.out HB9.out.size hbw); have HK := hide (HK9.out.below hbw HK9.out.lt); clear hs hbw ka la
    have ka := HK.out.cell; have la := HK.out.lt
    by_cases hlt : k < x.fRatios.length
    rotate_left
    ·
      have hall := hide (HTI.out.2 ⟨H1.out, H2.out, H3.out, by rw [HCC.out]; exact H4.out, by omega, H6.out, HS.out.all (by omega)⟩)
      go_wp2
      go_ret
      exact ⟨ret_bool (tf_yes hall.out).symm, HB.out⟩
    have hgk := List.getElem?_eq_getElem hlt
    obtain ⟨b1, off, cs1, hA, hb1, hcs, hcell⟩ := HX4.out k x.fRatios[k] hgk
    obtain ⟨rfl, rfl⟩ : b0 = b1 ∧ of0 = off := by injection hA with hA; injection hA with e1 e2; exact ⟨e1, e2⟩
    clear hA
    generalize hyy : x.fRatios[k] = y at *; clear hyy
    have HG := hide hgk; have HY := hide (H2.out _ _ hgk); clear hgk
    obtain rfl := GFrac.rd_open (show T.rds _ _ _ by simpa only [GFrac.t, T.rd] using hcs)
    have d0 := (HB.out.cell hb1).trans (hcell 0 (.int .i64 y.fNum) rfl)
    have d1 := (HB.out.cell hb1).trans (hcell 1 (.int .i64 y.fDen) rfl)
    rw [show of0 + (k * 2 + 0) = of0 + k * 2 by omega] at d0
    rw [show of0 + (k * 2 + 1) = of0 + k * 2 + 1 by omega] at d1
    clear hcs hcell
    have hq1 := Nat.lt_of_lt_of_le hb1 HB.out.size
    obtain ⟨c1, hc1⟩ : ∃ cc, cmpFr y x.fOctave = cc := ⟨_, rfl⟩
    have C1 := hide (fun W => (by have := c_compare y x.fOctave W HY.out H1.out.2; rw [hc1] at this; exact this : Calls Tryz.prog 146 #[.agg #[.int .i64 y.fNum, .int .i64 y.fDen], .agg #[.int .i64 x.fOctave.fNum, .int .i64 x.fOctave.fDen]] W fun e w' => e = .returned (.int .i64 c1) ∧ Below W.heap.size W w'))
    have HC1 := hide hc1; clear hc1
    by_cases h7 : c1 < 0
    rotate_left
    ·
      have k7 : decide ((0 : Int) ≤ c1) = true := decide_eq_true (by omega)
      have N_ := hide h7; clear h7
      have hWb : Below wr.heap.size wr (wr.alloc (.cells #[.int .i64 y.fNum, .int .i64 y.fDen] 64)) := (Below.refl _ _).alloc (Nat.le_refl _) _
      have hNb := Bk.born wr 64 #[.int .i64 y.fNum, .int .i64 y.fDen]
      go_wp2
      generalize wr.alloc (.cells #[.int .i64 y.fNum, .int .i64 y.fDen] 64) = W at *
      have HWb := hide hWb; have HNb := hide hNb; have HKW := hide (HK.out.below hWb HK.out.lt)
      have g0 := bel_bk hNb; have g1 := bel_bk HKW.out
      clear hWb hNb
      refine wp_region_bel (by kernel_rfl) (by kernel_rfl) ?_
      repeat (first | go_big_quiet_skip | (go_big_quiet_want; go_big_quiet_op; first | go_big_quiet_on | (apply Exists.intro; refine ⟨fun _ => ?_, ?_⟩; (· (first | (go_at_call_of 146 (Value.agg #[.int .i64 x.fOctave.fNum, .int .i64 x.fOctave.fDen]); exact Calls.quiet_bel (C1.out _)))); go_big_quiet_on)))
      refine wpQuiet_nil ?_
      rintro w9 ⟨uu, rfl⟩
      have hb9 := bel_below W uu
      generalize bel W uu = w9 at *
      have HC := hide (bthen HWb.out HWb.out.size hb9); have HC2 := hide (bthen HB.out HB.out.size HC.out); have HC3 := hide (bthen HW.out HW.out.size HC.out)
      clear hb9 g0 g1
      go_wp2
      go_ret
      exact ⟨ret_bool (tf_no (fun h => by have q := ((HTI.out.1 h).2.2.2.2.2.2 k y HG.out).1; rw [HC1.out] at q; have r := N_.out; omega)).symm, HC2.out⟩
    have k7 : decide ((0 : Int) ≤ c1) = false := decide_eq_false (by omega)
    have H7 := hide h7; clear h7
    by_cases hk0 : k = 0
    ·
      have g_ : decide (0 < k) = false := decide_eq_false (by omega)
      have K0 := hide hk0; clear hk0
      have hWb : Below wr.heap.size wr (wr.alloc (.cells #[.int .i64 y.fNum, .int .i64 y.fDen] 64)) := (Below.refl _ _).alloc (Nat.le_refl _) _
      have hNb := Bk.born wr 64 #[.int .i64 y.fNum, .int .i64 y.fDen]
      go_wp2
      generalize wr.alloc (.cells #[.int .i64 y.fNum, .int .i64 y.fDen] 64) = W at *
      have HWb := hide hWb; have HNb := hide hNb; have HKW := hide (HK.out.below hWb HK.out.lt)
      have g0 := bel_bk hNb; have g1 := bel_bk HKW.out
      clear hWb hNb
      refine wp_region_bel (by kernel_rfl) (by kernel_rfl) ?_
      repeat (first | go_big_quiet_skip | (go_big_quiet_want; go_big_quiet_op; first | go_big_quiet_on | (apply Exists.intro; refine ⟨fun _ => ?_, ?_⟩; (· (first | (go_at_call_of 146 (Value.agg #[.int .i64 x.fOctave.fNum, .int .i64 x.fOctave.fDen]); exact Calls.quiet_bel (C1.out _)))); go_big_quiet_on)))
      refine wpQuiet_nil ?_
      rintro w9 ⟨uu, rfl⟩
      have hb9 := bel_below W uu
      generalize bel W uu = w9 at *
      have HC := hide (bthen HWb.out HWb.out.size hb9); have HC2 := hide (bthen HB.out HB.out.size HC.out); have HC3 := hide (bthen HW.out HW.out.size HC.out)
      clear hb9 g0 g1
      go_wp2
      go_roundw
      case rel => exact ⟨k + 1, by omega, by go_num, HS.out.step HG.out ⟨by rw [HC1.out]; exact H7.out, fun p h _ => by have := K0.out; omega⟩, HC3.out⟩
      case measure => simp [intOf]; omega
    obtain ⟨j, rfl⟩ : ∃ j, k = j + 1 := ⟨k - 1, by omega⟩
    clear hk0
    have hwj : IntKind.i64.wrap (((j + 1 : Nat) : Int) - 1) = (j : Int) := by rw [show ((j + 1 : Nat) : Int) - 1 = (j : Int) by omega]; exact IntWalk.i64_in _ (by omega)
    have hgj := List.getElem?_eq_getElem (show j < x.fRatios.length by omega)
    obtain ⟨b2, off2, cs2, hA2, hb2, hcs2, hcell2⟩ := HX4.out j x.fRatios[j] hgj
    obtain ⟨rfl, rfl⟩ : b0 = b2 ∧ of0 = off2 := by injection hA2 with hA2; injection hA2 with e1 e2; exact ⟨e1, e2⟩
    clear hA2
    generalize hzz : x.fRatios[j] = v at *; clear hzz
    have HV := hide (H2.out _ _ hgj); have HGJ := hide hgj; clear hgj
    obtain rfl := GFrac.rd_open (show T.rds _ _ _ by simpa only [GFrac.t, T.rd] using hcs2)
    have e0 := (HB.out.cell hb2).trans (hcell2 0 (.int .i64 v.fNum) rfl)
    have e1 := (HB.out.cell hb2).trans (hcell2 1 (.int .i64 v.fDen) rfl)
    rw [show of0 + (j * 2 + 0) = of0 + j * 2 by omega] at e0
    rw [show of0 + (j * 2 + 1) = of0 + j * 2 + 1 by omega] at e1
    clear hcs2 hcell2
    have i0 : (j : Int) < (x.fRatios.length : Int) := by omega
    obtain ⟨c2, hc2⟩ : ∃ cc, cmpFr v y = cc := ⟨_, rfl⟩
    have C2 := hide (fun W => (by have := c_compare v y W HV.out HY.out; rw [hc2] at this; exact this : Calls Tryz.prog 146 #[.agg #[.int .i64 v.fNum, .int .i64 v.fDen], .agg #[.int .i64 y.fNum, .int .i64 y.fDen]] W fun e w' => e = .returned (.int .i64 c2) ∧ Below W.heap.size W w'))
    have HC2_ := hide hc2; clear hc2
    by_cases h8 : c2 < 0
    rotate_left
    ·
      have k8 : decide ((0 : Int) ≤ c2) = true := decide_eq_true (by omega)
      have N_ := hide h8; clear h8
      have hWb : Below wr.heap.size wr (wr.alloc (.cells #[.int .i64 y.fNum, .int .i64 y.fDen] 64)) := (Below.refl _ _).alloc (Nat.le_refl _) _
      have hNb := Bk.born wr 64 #[.int .i64 y.fNum, .int .i64 y.fDen]
      go_wp2
      generalize wr.alloc (.cells #[.int .i64 y.fNum, .int .i64 y.fDen] 64) = W at *
      have HWb := hide hWb; have HNb := hide hNb; have HKW := hide (HK.out.below hWb HK.out.lt)
      have g0 := bel_bk hNb; have g1 := bel_bk HKW.out
      have g2 := bel_cell ((hWb.cell (World.block_lt_of_cell? wr _ e0)).trans e0)
      have g3 := bel_cell ((hWb.cell (World.block_lt_of_cell? wr _ e1)).trans e1)
      clear hWb hNb
      refine wp_region_bel (by kernel_rfl) (by kernel_rfl) ?_
      repeat (first | go_big_quiet_skip | (go_big_quiet_want; go_big_quiet_op; first | go_big_quiet_on | (apply Exists.intro; refine ⟨fun _ => ?_, ?_⟩; (· (first | (go_at_call_of 146 (Value.agg #[.int .i64 v.fNum, .int .i64 v.fDen]); exact Calls.quiet_bel (C2.out _)) | (go_at_call_of 146 (Value.agg #[.int .i64 x.fOctave.fNum, .int .i64 x.fOctave.fDen]); exact Calls.quiet_bel (C1.out _)))); go_big_quiet_on)))
      refine wpQuiet_nil ?_
      rintro w9 ⟨uu, rfl⟩
      have hb9 := bel_below W uu
      generalize bel W uu = w9 at *
      have HC := hide (bthen HWb.out HWb.out.size hb9); have HC2 := hide (bthen HB.out HB.out.size HC.out); have HC3 := hide (bthen HW.out HW.out.size HC.out)
      clear hb9 g0 g1 g2 g3
      go_wp2
      go_ret
      exact ⟨ret_bool (tf_no (fun h => by have q := ((HTI.out.1 h).2.2.2.2.2.2 (j + 1) y HG.out).2 v (by omega) HGJ.out; rw [HC2_.out] at q; have r := N_.out; omega)).symm, HC2.out⟩
    have k8 : decide ((0 : Int) ≤ c2) = false := decide_eq_false (by omega)
    have H8 := hide h8; clear h8
    have hWb : Below wr.heap.size wr (wr.alloc (.cells #[.int .i64 y.fNum, .int .i64 y.fDen] 64)) := (Below.refl _ _).alloc (Nat.le_refl _) _
    have hNb := Bk.born wr 64 #[.int .i64 y.fNum, .int .i64 y.fDen]
    go_wp2
    generalize wr.alloc (.cells #[.int .i64 y.fNum, .int .i64 y.fDen] 64) = W at *
    have HWb := hide hWb; have HNb := hide hNb; have HKW := hide (HK.out.below hWb HK.out.lt)
    have g0 := bel_bk hNb; have g1 := bel_bk HKW.out
    have g2 := bel_cell ((hWb.cell (World.block_lt_of_cell? wr _ e0)).trans e0)
    have g3 := bel_cell ((hWb.cell (World.block_lt_of_cell? wr _ e1)).trans e1)
    clear hWb hNb
    refine wp_region_bel (by kernel_rfl) (by kernel_rfl) ?_
    repeat (first | go_big_quiet_skip | (go_big_quiet_want; go_big_quiet_op; first | go_big_quiet_on | (apply Exists.intro; refine ⟨fun _ => ?_, ?_⟩; (· (first | (go_at_call_of 146 (Value.agg #[.int .i64 v.fNum, .int .i64 v.fDen]); exact Calls.quiet_bel (C2.out _)) | (go_at_call_of 146 (Value.agg #[.int .i64 x.fOctave.fNum, .int .i64 x.fOctave.fDen]); exact Calls.quiet_bel (C1.out _)))); go_big_quiet_on)))
    refine wpQuiet_nil ?_
    rintro w9 ⟨uu, rfl⟩
    have hb9 := bel_below W uu
    generalize bel W uu = w9 at *
    have HC := hide (bthen HWb.out HWb.out.size hb9); have HC2 := hide (bthen HB.out HB.out.size HC.out); have HC3 := hide (bthen HW.out HW.out.size HC.out)
    clear hb9 g0 g1 g2 g3
    go_wp2
    go_roundw
    case rel => exact ⟨j + 2, by omega, by go_num, HS.out.step HG.out ⟨by rw [HC1.out]; exact H7.out, fun p _ hp => by rw [Nat.add_sub_cancel, HGJ.out] at hp; injection hp with hp; rw [← hp, HC2_.out]; exact H8.out⟩, HC3.out⟩
    case measure => simp [intOf]; omega
end Go.Proofs.YteiflbhcehajkaaGreatDoor
