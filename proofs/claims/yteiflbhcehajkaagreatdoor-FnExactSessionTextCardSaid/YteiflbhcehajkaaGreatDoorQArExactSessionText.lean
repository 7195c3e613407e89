/- Contracts: what is valid, by the reference: clips, tracks, names, mixers. Contracts: nested data marked cell by cell. Contracts: marks of nested data, and marks that are still there. Contracts: which nested data are the same. -/
import Derived.Test.YteiflbhcehajkaaGreatDoorQAkExactSessionText
import Derived.Test.YteiflbhcehajkaaGreatDoorQAbExactSessionText
import Derived.Test.YteiflbhcehajkaaGreatDoorQAoExactSessionText
import Derived.Test.YteiflbhcehajkaaGreatDoorQAdExactSessionText
import Derived.Test.YteiflbhcehajkaaGreatDoorQAiExactSessionText
import Derived.Test.YteiflbhcehajkaaGreatDoorQAfExactSessionText
import Derived.Laws.StructEq
set_option linter.unusedVariables false
set_option linter.unusedSimpArgs false
section
namespace Go.Proofs.YteiflbhcehajkaaGreatDoor
open Go.RowKit
/-- A struct within a struct behind a pointer. -/
theorem T.at_sub {w : World} {fs : List T} {b o : Nat} (pre sub post : List Value) (hb : b < w.heap.size) (hc : ∀ j u, (pre ++ (sub ++ post))[j]? = some u → w.cell? ⟨b, o + j, none⟩ = some u) (h : T.rds w fs sub) : T.at w fs b (o + pre.length) :=
  ⟨hb, sub, h, fun j u hj => by
    have hl := (List.getElem?_eq_some_iff.1 hj).1
    have := hc (pre.length + j) u (by rw [List.getElem?_append_right (by omega), Nat.add_sub_cancel_left, List.getElem?_append_left hl]; exact hj)
    rwa [← Nat.add_assoc] at this⟩
set_option maxHeartbeats 2000000 in
set_option maxRecDepth 20000 in
theorem c_l23Clip (x : GClip) (b o : Nat) (w : World) (h : T.at w x.fs b o) : Calls Tryz.prog 202 #[.pointer (some ⟨b, o, none⟩)] w fun e w' => e = .returned (.bool (tf (ClipOk x))) ∧ Below w.heap.size w w' := by
  have HAT := hide h
  obtain ⟨hlt0, cs, hr, hc⟩ := h
  obtain rfl := GClip.rd_open hr
  clear hr
  have HL := hide hlt0; have HCC := hide hc; have HB0 := hide (Below.refl w.heap.size w); clear hlt0 hc
  have p0 : w.cell? ⟨b, o, none⟩ = some (.int .i64 x.fSource) := (HB0.out.cell HL.out).trans (HCC.out 0 _ rfl)
  have p1 : w.cell? ⟨b, o + 1, none⟩ = some (.int .i64 x.fFrom) := (HB0.out.cell HL.out).trans (HCC.out 1 _ rfl)
  have p2 : w.cell? ⟨b, o + 2, none⟩ = some (.int .i64 x.fLength) := (HB0.out.cell HL.out).trans (HCC.out 2 _ rfl)
  have p3 : w.cell? ⟨b, o + 3, none⟩ = some (.int .i64 x.fAt) := (HB0.out.cell HL.out).trans (HCC.out 3 _ rfl)
  have p4 : w.cell? ⟨b, o + 4, none⟩ = some (.int .i64 x.fGain) := (HB0.out.cell HL.out).trans (HCC.out 4 _ rfl)
  have lb : b < w.heap.size := Nat.lt_of_lt_of_le HL.out HB0.out.size
  go_enter Tryz.func202, Tryz.ntmps202
  by_cases q1 : inB x.fSource 0 5 = true
  rotate_left
  · have q1' : inB x.fSource 0 5 = false := (by simpa using q1)
    go_wp2_with (first | (go_at_call 56; refine (c_l00In _ _ _ _).mono ?_; rintro e w' ⟨rfl, rfl⟩) | (go_at_call 110; refine (c_l01Sample _ _).mono ?_; rintro e w' ⟨rfl, rfl⟩))
    go_ret
    exact ⟨ret_bool (tf_no fun h => q1 h.source).symm, HB0.out⟩
  skip
  by_cases q2 : inB x.fLength 1 4000 = true
  rotate_left
  · have q2' : inB x.fLength 1 4000 = false := (by simpa using q2)
    go_wp2_with (first | (go_at_call 56; refine (c_l00In _ _ _ _).mono ?_; rintro e w' ⟨rfl, rfl⟩) | (go_at_call 110; refine (c_l01Sample _ _).mono ?_; rintro e w' ⟨rfl, rfl⟩))
    go_ret
    exact ⟨ret_bool (tf_no fun h => q2 h.length).symm, HB0.out⟩
  have i2 := inB_iff.1 q2
  by_cases q3 : Smp x.fGain
  rotate_left
  · have q3' : decide (Smp x.fGain) = false := decide_eq_false q3; have Q3 := hide q3; clear q3
    go_wp2_with (first | (go_at_call 56; refine (c_l00In _ _ _ _).mono ?_; rintro e w' ⟨rfl, rfl⟩) | (go_at_call 110; refine (c_l01Sample _ _).mono ?_; rintro e w' ⟨rfl, rfl⟩))
    go_ret
    exact ⟨ret_bool (tf_no fun h => Q3.out h.gain).symm, HB0.out⟩
  have q3' : decide (Smp x.fGain) = true := decide_eq_true q3; have Q3 := hide q3; clear q3
  by_cases q4 : inB x.fFrom 0 (4000 - x.fLength) = true
  rotate_left
  · have q4' : inB x.fFrom 0 (4000 - x.fLength) = false := (by simpa using q4)
    go_wp2_with (first | (go_at_call 56; refine (c_l00In _ _ _ _).mono ?_; rintro e w' ⟨rfl, rfl⟩) | (go_at_call 110; refine (c_l01Sample _ _).mono ?_; rintro e w' ⟨rfl, rfl⟩))
    have g0 := bel_cell p0
    have g1 := bel_cell p1
    have g2 := bel_cell p2
    have g3 := bel_cell p3
    have g4 := bel_cell p4
    refine wp_region_bel (by kernel_rfl) (by kernel_rfl) ?_
    repeat (first | go_big_quiet_skip | (go_big_quiet_want; go_big_quiet_op; first | go_big_quiet_on | (apply Exists.intro; refine ⟨fun _ => ?_, ?_⟩; (· ((go_at_call 56; exact Calls.quiet_bel_same ((c_l00In _ _ _ _).mono (fun e w' h => by (first | rw [q4'] at h | skip); exact h))))); go_big_quiet_on)))
    refine wpQuiet_nil ?_
    rintro w9 ⟨uu, rfl⟩
    have hb9 := bel_below w uu
    generalize bel w uu = w9 at *
    have HB9 := hide (bthen HB0.out HB0.out.size hb9); clear g0 g1 g2 g3 g4
    go_wp2
    go_ret
    exact ⟨ret_bool (tf_no fun h => q4 h.from_).symm, HB9.out⟩
  by_cases q5 : inB x.fAt 0 (4000 - x.fLength) = true
  rotate_left
  · have q5' : inB x.fAt 0 (4000 - x.fLength) = false := (by simpa using q5)
    go_wp2_with (first | (go_at_call 56; refine (c_l00In _ _ _ _).mono ?_; rintro e w' ⟨rfl, rfl⟩) | (go_at_call 110; refine (c_l01Sample _ _).mono ?_; rintro e w' ⟨rfl, rfl⟩))
    have g0 := bel_cell p0
    have g1 := bel_cell p1
    have g2 := bel_cell p2
    have g3 := bel_cell p3
    have g4 := bel_cell p4
    refine wp_region_bel (by kernel_rfl) (by kernel_rfl) ?_
    repeat (first | go_big_quiet_skip | (go_big_quiet_want; go_big_quiet_op; first | go_big_quiet_on | (apply Exists.intro; refine ⟨fun _ => ?_, ?_⟩; (· ((go_at_call 56; exact Calls.quiet_bel_same ((c_l00In _ _ _ _).mono (fun e w' h => by (first | rw [q4] at h | rw [q5'] at h | skip); exact h))))); go_big_quiet_on)))
    refine wpQuiet_nil ?_
    rintro w9 ⟨uu, rfl⟩
    have hb9 := bel_below w uu
    generalize bel w uu = w9 at *
    have HB9 := hide (bthen HB0.out HB0.out.size hb9); clear g0 g1 g2 g3 g4
    go_wp2
    go_ret
    exact ⟨ret_bool (tf_no fun h => q5 h.at_).symm, HB9.out⟩
  go_wp2_with (first | (go_at_call 56; refine (c_l00In _ _ _ _).mono ?_; rintro e w' ⟨rfl, rfl⟩) | (go_at_call 110; refine (c_l01Sample _ _).mono ?_; rintro e w' ⟨rfl, rfl⟩))
  have g0 := bel_cell p0
  have g1 := bel_cell p1
  have g2 := bel_cell p2
  have g3 := bel_cell p3
  have g4 := bel_cell p4
  refine wp_region_bel (by kernel_rfl) (by kernel_rfl) ?_
  repeat (first | go_big_quiet_skip | (go_big_quiet_want; go_big_quiet_op; first | go_big_quiet_on | (apply Exists.intro; refine ⟨fun _ => ?_, ?_⟩; (· ((go_at_call 56; exact Calls.quiet_bel_same ((c_l00In _ _ _ _).mono (fun e w' h => by (first | rw [q4] at h | rw [q5] at h | skip); exact h))))); go_big_quiet_on)))
  refine wpQuiet_nil ?_
  rintro w9 ⟨uu, rfl⟩
  have hb9 := bel_below w uu
  generalize bel w uu = w9 at *
  have HB9 := hide (bthen HB0.out HB0.out.size hb9); clear g0 g1 g2 g3 g4
  go_wp2
  go_ret
  exact ⟨ret_bool (tf_yes ⟨q1, q2, q4, q5, Q3.out⟩).symm, HB9.out⟩
set_option maxHeartbeats 2000000 in
set_option maxRecDepth 20000 in
theorem c_l23Ok (x : GTrack) (b o : Nat) (w : World) (h : T.at w x.fs b o) : Calls Tryz.prog 157 #[.pointer (some ⟨b, o, none⟩)] w fun e w' => e = .returned (.bool (tf (TrackOk x))) ∧ Below w.heap.size w w' := by
  have HAT := hide h
  obtain ⟨hlt0, cs, hr, hc⟩ := h
  obtain ⟨v0, rfl, h0⟩ := GTrack.rd_open hr
  clear hr
  have R0 := hide h0; obtain ⟨va0, vc0, rfl, vl0, vm0, vx0⟩ := T.rd_openG h0
  have HX0 := hide vx0; clear vx0 h0
  have HL := hide hlt0; have HCC := hide hc; have HB0 := hide (Below.refl w.heap.size w); clear hlt0 hc
  have p0 : w.cell? ⟨b, o, none⟩ = some (.slice va0 x.fClips.length vc0) := (HB0.out.cell HL.out).trans (HCC.out 0 _ rfl)
  have lb : b < w.heap.size := Nat.lt_of_lt_of_le HL.out HB0.out.size
  go_enter Tryz.func157, Tryz.ntmps157
  go_wp2
  clear p0 lb
  go_loopw [3] (fun i wr => ∃ k : Nat, k ≤ x.fClips.length ∧ i = .int .i64 k ∧ Upto x.fClips (fun i c => ClipOk c ∧ ∀ p, 0 < i → x.fClips[i - 1]? = some p → p.fAt ≤ c.fAt) k ∧ Below w.heap.size w wr) (fun i _ => x.fClips.length - (intOf i).toNat)
  case atStart => exact ⟨0, Nat.zero_le _, rfl, Upto.zero, Below.refl _ _⟩
  case round =>
    obtain ⟨k, hk, rfl, hs, hbw⟩ := hrel
    have HS := hide hs; have HW := hide hbw; have HB := hide (bthen HB0.out HB0.out.size hbw); clear hs hbw
    have p0 : wr.cell? ⟨b, o, none⟩ = some (.slice va0 x.fClips.length vc0) := (HB.out.cell HL.out).trans (HCC.out 0 _ rfl)
    have lb : b < wr.heap.size := Nat.lt_of_lt_of_le HL.out HB.out.size
    by_cases hlt : k < x.fClips.length
    rotate_left
    · have hall := hide (HS.out.all (by omega)); clear HS
      by_cases h12 : x.fClips.length ≤ 12
      · go_wp2
        go_ret
        exact ⟨ret_bool (by rw [tf_yes ⟨hall.out, h12⟩]; exact decide_eq_true (by omega)), HB.out⟩
      · go_wp2
        go_ret
        exact ⟨ret_bool (by rw [tf_no fun h => h12 h.few]; exact decide_eq_false (by omega)), HB.out⟩
    have hgk := List.getElem?_eq_getElem hlt
    obtain ⟨b1, off, csy, hA, hb1, hcs, hcell⟩ := HX0.out k x.fClips[k] hgk
    subst hA
    generalize x.fClips[k] = y at *
    have HG := hide hgk; clear hgk
    have HAy := hide (T.at_elem (o := off + k * 5) hb1 (show T.rds w y.fs csy by simpa only [GClip.t, T.rd] using hcs) hcell (by omega)); clear hcs hcell
    have n1 : ((k : Int) < (x.fClips.length : Int)) := by omega
    by_cases hk0 : k = 0
    · have g0' : decide (0 < k) = false := decide_eq_false (by omega)
      have K0 := hide hk0; clear hk0
      by_cases q1 : ClipOk y
      · have a1 := tf_yes q1; have Q1 := hide q1; clear q1
        go_wp2
        have g0 := bel_cell p0
        refine wp_region_bel (by kernel_rfl) (by kernel_rfl) ?_
        repeat (first | go_big_quiet_skip | (go_big_quiet_want; go_big_quiet_op; first | go_big_quiet_on | (apply Exists.intro; refine ⟨fun _ => ?_, ?_⟩; (· (go_at_call 202; exact Calls.quiet_bel ((c_l23Clip y _ _ _ (T.at_below HAy.out (bthen HB.out HB.out.size (bel_below wr _)))).mono (fun e w' h => by rw [a1] at h; exact h)))); go_big_quiet_on)))
        refine wpQuiet_nil ?_
        rintro w9 ⟨uu, rfl⟩
        have hb9 := bel_below wr uu
        generalize bel wr uu = w9 at *
        have HB9 := hide (bthen HB.out HB.out.size hb9); clear g0
        have HW9 := hide (bthen HW.out HW.out.size hb9); clear hb9
        go_wp2
        go_roundw
        case rel => exact ⟨k + 1, by omega, by go_num, HS.out.step HG.out ⟨Q1.out, fun p h => by have := K0.out; omega⟩, HW9.out⟩
        case measure => simp [intOf]; omega
      · have a1 := tf_no q1; have Q1 := hide q1; clear q1
        go_wp2
        have g0 := bel_cell p0
        refine wp_region_bel (by kernel_rfl) (by kernel_rfl) ?_
        repeat (first | go_big_quiet_skip | (go_big_quiet_want; go_big_quiet_op; first | go_big_quiet_on | (apply Exists.intro; refine ⟨fun _ => ?_, ?_⟩; (· (go_at_call 202; exact Calls.quiet_bel ((c_l23Clip y _ _ _ (T.at_below HAy.out (bthen HB.out HB.out.size (bel_below wr _)))).mono (fun e w' h => by rw [a1] at h; exact h)))); go_big_quiet_on)))
        refine wpQuiet_nil ?_
        rintro w9 ⟨uu, rfl⟩
        have hb9 := bel_below wr uu
        generalize bel wr uu = w9 at *
        have HB9 := hide (bthen HB.out HB.out.size hb9); clear g0
        have HW9 := hide (bthen HW.out HW.out.size hb9); clear hb9
        go_wp2
        go_ret
        exact ⟨ret_bool (tf_no fun h => Q1.out (h.clips k y HG.out).1).symm, HB9.out⟩
    obtain ⟨j, rfl⟩ : ∃ j, k = j + 1 := ⟨k - 1, by omega⟩
    clear hk0
    have hltj : j < x.fClips.length := by omega
    have hgk := List.getElem?_eq_getElem hltj
    obtain ⟨b2, off2, csz, hA, hb2, hcs, hcell⟩ := HX0.out j x.fClips[j] hgk
    obtain ⟨rfl, rfl⟩ : b1 = b2 ∧ off = off2 := by injection hA with hA; injection hA with e1 e2; exact ⟨e1, e2⟩
    clear hA
    generalize x.fClips[j] = z at *
    have HJ := hide hgk; clear hgk
    have HAz := hide (T.at_elem (o := off + j * 5) hb2 (show T.rds w z.fs csz by simpa only [GClip.t, T.rd] using hcs) hcell (by omega)); clear hcs hcell
    obtain ⟨_, csy', hry, hcy⟩ := HAy.out
    obtain rfl := GClip.rd_open hry
    have cy3 : wr.cell? ⟨b1, off + (j + 1) * 5 + 3, none⟩ = some (.int .i64 y.fAt) := (HB.out.cell hb1).trans (hcy 3 _ rfl)
    obtain ⟨_, csz', hrz, hcz⟩ := HAz.out
    obtain rfl := GClip.rd_open hrz
    have cz3 : wr.cell? ⟨b1, off + j * 5 + 3, none⟩ = some (.int .i64 z.fAt) := (HB.out.cell hb1).trans (hcz 3 _ rfl)
    clear hry hcy hrz hcz
    have e1 : IntKind.i64.wrap ((j : Int) + 1 - 1) = (j : Int) := by rw [IntWalk.i64_in _ (by omega)]; omega
    have e2 : IntKind.i64.wrap (j : Int) = (j : Int) := IntWalk.i64_in _ (by omega)
    have n0 : (0 : Int) ≤ (j : Int) := by omega
    have n2 : ((j : Int) < (x.fClips.length : Int)) := by omega
    have n3 : ((j : Int) + 1 < (x.fClips.length : Int)) := by omega
    have n4 : (0 : Int) ≤ (j : Int) + 1 := by omega
    by_cases q1 : ClipOk y
    rotate_left
    · have a1 := tf_no q1; have Q1 := hide q1; clear q1
      go_wp2
      have g0 := bel_cell p0
      have g1 := bel_cell cy3
      have g2 := bel_cell cz3
      refine wp_region_bel (by kernel_rfl) (by kernel_rfl) ?_
      repeat (first | go_big_quiet_skip | (go_big_quiet_want; go_big_quiet_op; first | go_big_quiet_on | (apply Exists.intro; refine ⟨fun _ => ?_, ?_⟩; (· (go_at_call 202; exact Calls.quiet_bel ((c_l23Clip y _ _ _ (T.at_below HAy.out (bthen HB.out HB.out.size (bel_below wr _)))).mono (fun e w' h => by rw [a1] at h; exact h)))); go_big_quiet_on)))
      refine wpQuiet_nil ?_
      rintro w9 ⟨uu, rfl⟩
      have hb9 := bel_below wr uu
      generalize bel wr uu = w9 at *
      have HB9 := hide (bthen HB.out HB.out.size hb9); clear g0 g1 g2
      have HW9 := hide (bthen HW.out HW.out.size hb9); clear hb9
      go_wp2
      go_ret
      exact ⟨ret_bool (tf_no fun h => Q1.out (h.clips (j + 1) y HG.out).1).symm, HB9.out⟩
    have a1 := tf_yes q1; have Q1 := hide q1; clear q1
    by_cases q2 : y.fAt < z.fAt
    · have q2' : decide (y.fAt < z.fAt) = true := decide_eq_true q2; have Q2 := hide q2
      go_wp2
      have g0 := bel_cell p0
      have g1 := bel_cell cy3
      have g2 := bel_cell cz3
      refine wp_region_bel (by kernel_rfl) (by kernel_rfl) ?_
      repeat (first | go_big_quiet_skip | (go_big_quiet_want; go_big_quiet_op; first | go_big_quiet_on | (apply Exists.intro; refine ⟨fun _ => ?_, ?_⟩; (· (go_at_call 202; exact Calls.quiet_bel ((c_l23Clip y _ _ _ (T.at_below HAy.out (bthen HB.out HB.out.size (bel_below wr _)))).mono (fun e w' h => by rw [a1] at h; exact h)))); go_big_quiet_on)))
      refine wpQuiet_nil ?_
      rintro w9 ⟨uu, rfl⟩
      have hb9 := bel_below wr uu
      generalize bel wr uu = w9 at *
      have HB9 := hide (bthen HB.out HB.out.size hb9); clear g0 g1 g2
      have HW9 := hide (bthen HW.out HW.out.size hb9); clear hb9
      go_wp2
      go_ret
      exact ⟨ret_bool (tf_no fun h => by have := (h.clips (j + 1) y HG.out).2 z (by omega) HJ.out; have := Q2.out; omega).symm, HB9.out⟩
    have q2' : decide (y.fAt < z.fAt) = false := decide_eq_false q2
    go_wp2
    have g0 := bel_cell p0
    have g1 := bel_cell cy3
    have g2 := bel_cell cz3
    refine wp_region_bel (by kernel_rfl) (by kernel_rfl) ?_
    repeat (first | go_big_quiet_skip | (go_big_quiet_want; go_big_quiet_op; first | go_big_quiet_on | (apply Exists.intro; refine ⟨fun _ => ?_, ?_⟩; (· (go_at_call 202; exact Calls.quiet_bel ((c_l23Clip y _ _ _ (T.at_below HAy.out (bthen HB.out HB.out.size (bel_below wr _)))).mono (fun e w' h => by rw [a1] at h; exact h)))); go_big_quiet_on)))
    refine wpQuiet_nil ?_
    rintro w9 ⟨uu, rfl⟩
    have hb9 := bel_below wr uu
    generalize bel wr uu = w9 at *
    have HB9 := hide (bthen HB.out HB.out.size hb9); clear g0 g1 g2
    have HW9 := hide (bthen HW.out HW.out.size hb9); clear hb9
    go_wp2
    go_roundw
    case rel => exact ⟨j + 1 + 1, by omega, by go_num, HS.out.step HG.out ⟨Q1.out, fun p _ hp => by rw [Nat.add_sub_cancel, HJ.out] at hp; injection hp with hp; subst hp; omega⟩, HW9.out⟩
    case measure => simp [intOf]; omega
set_option maxHeartbeats 2000000 in
set_option maxRecDepth 20000 in
theorem c_sValidTrack (x : GTrack) (cs : List Value) (w : World) (h : T.rds w x.fs cs) : Calls Tryz.prog 111 #[.agg cs.toArray] w fun e w' => e = .returned (.bool (tf (TrackOk x))) ∧ Below w.heap.size w w' := by
  obtain ⟨v0, rfl, h0⟩ := GTrack.rd_open h
  clear h
  have R0 := hide h0; obtain ⟨va0, vc0, rfl, vl0, vm0, vx0⟩ := T.rd_openG h0
  have HX0 := hide vx0; clear vx0 h0
  have HB0 := hide (show Below w.heap.size w (w.alloc (.cells #[(.slice va0 x.fClips.length vc0)] 114)) from (Below.refl _ _).alloc (Nat.le_refl _) _)
  have HK0 := hide (Bk.born w 114 #[(.slice va0 x.fClips.length vc0)])
  go_enter Tryz.func111, Tryz.ntmps111
  go_wp2_with fail
  refine (c_l23Ok x _ _ _ (T.at_bk HK0.out (GTrack.rd_mk (T.rd_below R0.out HB0.out)))).mono ?_; rintro e w1 ⟨rfl, hd⟩
  have H1 := hide (bthen HB0.out HB0.out.size hd); clear hd
  go_wp2
  go_ret
  exact ⟨rfl, H1.out⟩
set_option maxHeartbeats 2000000 in
set_option maxRecDepth 20000 in
theorem c_l27Track (x : GTrack) (b o : Nat) (n : Int) (w : World) (n0 : 0 ≤ n) (n1 : n ≤ 1048576) (h : T.at w x.fs b o) : Calls Tryz.prog 59 #[.pointer (some ⟨b, o, none⟩), .int .i64 n] w fun e w' => e = .returned (.bool (tf (TrackOk x ∧ Each x.fClips fun _ c => c.fSource < n))) ∧ Below w.heap.size w w' := by
  have HAT := hide h
  obtain ⟨hlt0, cs, hr, hc⟩ := h
  obtain ⟨v0, rfl, h0⟩ := GTrack.rd_open hr
  clear hr
  have R0 := hide h0; obtain ⟨va0, vc0, rfl, vl0, vm0, vx0⟩ := T.rd_openG h0
  have HX0 := hide vx0; clear vx0 h0
  have HL := hide hlt0; have HCC := hide hc; have HB0 := hide (Below.refl w.heap.size w); clear hlt0 hc
  have p0 : w.cell? ⟨b, o, none⟩ = some (.slice va0 x.fClips.length vc0) := (HB0.out.cell HL.out).trans (HCC.out 0 _ rfl)
  have lb : b < w.heap.size := Nat.lt_of_lt_of_le HL.out HB0.out.size
  go_enter Tryz.func59, Tryz.ntmps59
  go_wp2
  clear p0 lb
  go_loopw [5] (fun i wr => ∃ k : Nat, k ≤ x.fClips.length ∧ i = .int .i64 k ∧ Upto x.fClips (fun _ c => inB c.fSource 0 (n - 1) = true) k ∧ Below w.heap.size w wr) (fun i _ => x.fClips.length - (intOf i).toNat)
  case atStart => exact ⟨0, Nat.zero_le _, rfl, Upto.zero, Below.refl _ _⟩
  case round =>
    obtain ⟨k, hk, rfl, hs, hbw⟩ := hrel
    have HS := hide hs; have HW := hide hbw; have HB := hide (bthen HB0.out HB0.out.size hbw); clear hs hbw
    have p0 : wr.cell? ⟨b, o, none⟩ = some (.slice va0 x.fClips.length vc0) := (HB.out.cell HL.out).trans (HCC.out 0 _ rfl)
    have lb : b < wr.heap.size := Nat.lt_of_lt_of_le HL.out HB.out.size
    by_cases hlt : k < x.fClips.length
    rotate_left
    · have hall := hide (HS.out.all (by omega)); clear HS
      go_wp2_with fail
      refine (c_sValidTrack x _ _ (GTrack.rd_mk (T.rd_below R0.out HB.out))).mono ?_; rintro e w2 ⟨rfl, hb2⟩
      have H2 := hide (bthen HB.out HB.out.size hb2); clear hb2
      go_wp2
      go_ret
      exact ⟨ret_bool (tf_iff ⟨fun h => ⟨h, fun i c hc => by have := inB_iff.1 (hall.out i c hc); omega⟩, fun h => h.1⟩), H2.out⟩
    have hgk := List.getElem?_eq_getElem hlt
    obtain ⟨b1, off, csy, hA, hb1, hcs, hcell⟩ := HX0.out k x.fClips[k] hgk
    subst hA
    generalize x.fClips[k] = y at *
    have HG := hide hgk; clear hgk
    have HAy := hide (T.at_elem (o := off + k * 5) hb1 (show T.rds w y.fs csy by simpa only [GClip.t, T.rd] using hcs) hcell (by omega)); clear hcs hcell
    obtain ⟨_, csy', hry, hcy⟩ := HAy.out
    obtain rfl := GClip.rd_open hry
    have cy0 : wr.cell? ⟨b1, off + k * 5, none⟩ = some (.int .i64 y.fSource) := (HB.out.cell hb1).trans (hcy 0 _ rfl)
    have hq1 : b1 < wr.heap.size := Nat.lt_of_lt_of_le hb1 HB.out.size
    clear hry hcy
    by_cases q1 : inB y.fSource 0 (n - 1) = true
    rotate_left
    · have q1' : inB y.fSource 0 (n - 1) = false := (by simpa using q1)
      go_wp2_with (go_at_call 56; refine (c_l00In _ _ _ _).mono ?_; rintro e w' ⟨rfl, rfl⟩)
      go_ret
      exact ⟨ret_bool (tf_no fun h => by have h1 := (h.1.clips k y HG.out).1.source; have h2 := h.2 k y HG.out; exact q1 (inB_iff.2 ⟨(inB_iff.1 h1).1, by omega⟩)).symm, HB.out⟩
    go_wp2_with (go_at_call 56; refine (c_l00In _ _ _ _).mono ?_; rintro e w' ⟨rfl, rfl⟩)
    go_roundw
    case rel => exact ⟨k + 1, by omega, by go_num, HS.out.step HG.out q1, HW.out⟩
    case measure => simp [intOf]; omega
theorem c_sl01Small (x : Nat) (w : World) : Calls Tryz.prog 200 #[.int .u8 (x : Int)] w fun e w' => e = .returned (.bool (decide (97 ≤ x ∧ x ≤ 122))) ∧ w = w' := by
  by_cases h : 97 ≤ x
  all_goals
    go_enter Tryz.func200, Tryz.ntmps200
    go_wp2
    go_ret
    exact ⟨ret_bool (by by_cases h2 : x ≤ 122 <;> first | rfl | (simp [h, h2]; done) | (simp [h, h2]; omega)), rfl⟩
theorem c_sl01Digit (x : Nat) (w : World) : Calls Tryz.prog 201 #[.int .u8 (x : Int)] w fun e w' => e = .returned (.bool (decide (48 ≤ x ∧ x ≤ 57))) ∧ w = w' := by
  by_cases h : 48 ≤ x
  all_goals
    go_enter Tryz.func201, Tryz.ntmps201
    go_wp2
    go_ret
    exact ⟨ret_bool (by by_cases h2 : x ≤ 57 <;> first | rfl | (simp [h, h2]; done) | (simp [h, h2]; omega)), rfl⟩
theorem ne_of_size {s : ByteArray} (h : 1 ≤ s.size) : s.toList.isEmpty = false := by
  rw [toList_eq]
  have hl : s.data.toList.length = s.size := by rw [Array.length_toList]; rfl
  generalize s.data.toList = l at *
  cases l with
  | nil => simp at hl; omega
  | cons a t => rfl
set_option maxHeartbeats 2000000 in
set_option maxRecDepth 20000 in
theorem c_sIsName (s : ByteArray) (w : World) : Calls Tryz.prog 156 #[.string s] w fun e w' => e = .returned (.bool (tf (NameOk s))) ∧ w = w' := by
  by_cases h1 : 1 ≤ s.size
  rotate_left
  · have hs : s = ByteArray.empty := by apply ByteArray.ext; apply Array.toList_inj.1; apply List.eq_nil_of_length_eq_zero; rw [Array.length_toList]; have : s.data.size = s.size := rfl; omega
    subst hs
    go_enter Tryz.func156, Tryz.ntmps156
    go_wp2
    go_ret
    exact ⟨ret_bool (tf_no fun h => h1 h.some_).symm, rfl⟩
  have hne := ne_of_size h1
  have HNE := hide hne
  by_cases h2 : s.size ≤ 10
  rotate_left
  · go_enter Tryz.func156, Tryz.ntmps156
    go_wp2
    go_ret
    exact ⟨ret_bool (tf_no fun h => h2 h.few).symm, rfl⟩
  have hg0 := bA_get (s := s) (n := 0) (by omega)
  have hb0 := bA_lt s 0
  by_cases h3 : 97 ≤ bA s 0 ∧ bA s 0 ≤ 122
  rotate_left
  · have d0 : decide (97 ≤ bA s 0 ∧ bA s 0 ≤ 122) = false := decide_eq_false h3
    have H3 := hide h3; clear h3
    go_enter Tryz.func156, Tryz.ntmps156
    go_wp2_with (first | (go_at_call 200; refine (c_sl01Small _ _).mono ?_; rintro e w' ⟨rfl, rfl⟩) | (go_at_call 201; refine (c_sl01Digit _ _).mono ?_; rintro e w' ⟨rfl, rfl⟩))
    go_ret
    exact ⟨ret_bool (tf_no fun h => by rcases h.each 0 (by omega) with h | h <;> (simp only [smallN, digitN] at h; have := H3.out; omega)).symm, rfl⟩
  have d0 : decide (97 ≤ bA s 0 ∧ bA s 0 ≤ 122) = true := decide_eq_true h3
  have H3 := hide h3; clear h3
  go_enter Tryz.func156, Tryz.ntmps156
  go_wp2_with (first | (go_at_call 200; refine (c_sl01Small _ _).mono ?_; rintro e w' ⟨rfl, rfl⟩) | (go_at_call 201; refine (c_sl01Digit _ _).mono ?_; rintro e w' ⟨rfl, rfl⟩))
  go_loop [3] (fun i => ∃ k : Nat, k ≤ s.size ∧ i = .int .i64 k ∧ ∀ i, i < k → smallN (bA s i) ∨ digitN (bA s i)) (fun i => s.size - (intOf i).toNat)
  case atStart => exact ⟨0, Nat.zero_le _, rfl, fun i h => absurd h (by omega)⟩
  case round =>
    obtain ⟨k, hk, rfl, hs⟩ := hrel
    have HS := hide hs; clear hs hg0 hb0 d0
    by_cases hlt : k < s.size
    · have hb := bA_lt s k
      have hg := bA_get hlt
      generalize hy : bA s k = y at *
      have HY := hide hy; clear hy
      by_cases a1 : 97 ≤ y ∧ y ≤ 122
      · have d1 : decide (97 ≤ y ∧ y ≤ 122) = true := decide_eq_true a1
        have A1 := hide a1; clear a1
        go_wp2_with (first | (go_at_call 200; refine (c_sl01Small _ _).mono ?_; rintro e w' ⟨rfl, rfl⟩) | (go_at_call 201; refine (c_sl01Digit _ _).mono ?_; rintro e w' ⟨rfl, rfl⟩))
        go_round
        case rel => exact ⟨k + 1, by omega, by go_num, fun i hi => by
          by_cases e : i = k
          · subst e; rw [HY.out]; exact .inl A1.out
          · exact HS.out i (by omega)⟩
        case measure => simp [intOf]; omega
      · have d1 : decide (97 ≤ y ∧ y ≤ 122) = false := decide_eq_false a1
        have A1 := hide a1; clear a1
        by_cases a2 : 48 ≤ y ∧ y ≤ 57
        · have d2 : decide (48 ≤ y ∧ y ≤ 57) = true := decide_eq_true a2
          have A2 := hide a2; clear a2
          go_wp2_with (first | (go_at_call 200; refine (c_sl01Small _ _).mono ?_; rintro e w' ⟨rfl, rfl⟩) | (go_at_call 201; refine (c_sl01Digit _ _).mono ?_; rintro e w' ⟨rfl, rfl⟩))
          go_round
          case rel => exact ⟨k + 1, by omega, by go_num, fun i hi => by
            by_cases e : i = k
            · subst e; rw [HY.out]; exact .inr A2.out
            · exact HS.out i (by omega)⟩
          case measure => simp [intOf]; omega
        · have d2 : decide (48 ≤ y ∧ y ≤ 57) = false := decide_eq_false a2
          have A2 := hide a2; clear a2
          go_wp2_with (first | (go_at_call 200; refine (c_sl01Small _ _).mono ?_; rintro e w' ⟨rfl, rfl⟩) | (go_at_call 201; refine (c_sl01Digit _ _).mono ?_; rintro e w' ⟨rfl, rfl⟩))
          go_ret
          exact ⟨ret_bool (tf_no fun h => by
            rcases h.each k hlt with h | h <;> rw [HY.out] at h <;> (simp only [smallN, digitN] at h; have := A1.out; have := A2.out; omega)).symm, rfl⟩
    · go_wp2
      go_ret
      exact ⟨ret_bool (tf_yes ⟨h1, h2, fun i hi => by
        rcases HS.out i (by omega) with h | h
        · exact .inl h
        · by_cases e : i = 0
          · subst e; exact .inl H3.out
          · exact .inr ⟨h, e⟩⟩).symm, rfl⟩
end Go.Proofs.YteiflbhcehajkaaGreatDoor
end
section
namespace Go.Proofs.YteiflbhcehajkaaGreatDoor
open Go.RowKit
end Go.Proofs.YteiflbhcehajkaaGreatDoor
end
section
namespace Go.Proofs.YteiflbhcehajkaaGreatDoor
open Go.RowKit
end Go.Proofs.YteiflbhcehajkaaGreatDoor
end
section
namespace Go.Proofs.YteiflbhcehajkaaGreatDoor
open Go.RowKit
set_option maxHeartbeats 1000000 in
theorem c_same (v u : Value) (xs ys : List Int) (w : World) (hr1 : RdI w v xs) (hr2 : RdI w u ys) : Calls Tryz.prog 179 #[v, u] w fun e w' => e = .returned (.bool (decide (xs = ys))) ∧ Dr w w' := by
  obtain ⟨A1, cap1, rfl, hl1, hc1, hx1⟩ := hr1.open_
  obtain ⟨A2, cap2, rfl, hl2, hc2, hx2⟩ := hr2.open_
  have HX1 := hide hx1; have HX2 := hide hx2; clear hx1 hx2 hr1 hr2
  by_cases hll : xs.length = ys.length
  · have hb : ((xs.length : Int) != (ys.length : Int)) = false := by simp [hll]
    have HL := hide hll; clear hll
    go_enter Tryz.func179, Tryz.ntmps179
    go_wp2
    go_loopw [14] (fun i wr => ∃ k : Nat, k ≤ xs.length ∧ i = .int .i64 k ∧ xs.take k = ys.take k ∧ Dr w wr) (fun i _ => xs.length - (intOf i).toNat)
    case atStart => exact ⟨0, Nat.zero_le _, rfl, rfl, Dr.refl _⟩
    case round =>
      obtain ⟨k, hk, rfl, hs, nr, rfl⟩ := hrel
      have HS := hide hs; clear hs
      by_cases hlt : k < xs.length
      · have hlt2 : k < ys.length := by have := HL.out; omega
        obtain ⟨b1, off1, rfl, hb1, hcell1⟩ := HX1.out k xs[k] (List.getElem?_eq_getElem hlt)
        obtain ⟨b2, off2, rfl, hb2, hcell2⟩ := HX2.out k ys[k] (List.getElem?_eq_getElem hlt2)
        by_cases he : xs[k] = ys[k]
        · have hd : (xs[k] != ys[k]) = false := by simp [he]
          have HE := hide he; clear he
          go_wp2
          go_roundw
          case rel => exact ⟨k + 1, by omega, by go_num, takes_succ HS.out (List.getElem?_eq_getElem hlt) (by rw [HE.out]; exact List.getElem?_eq_getElem hlt2), (by repeat (first | exact Dr.refl _ | exact ⟨_, rfl⟩ | refine Dr.drewN ?_ _ | refine Dr.drew ?_))⟩
          case measure => simp [intOf]; omega
        · have hd : (xs[k] != ys[k]) = true := by simp [he]
          have HE := hide he; clear he
          go_wp2
          go_ret
          exact ⟨by simp [ne_at (List.getElem?_eq_getElem hlt) (List.getElem?_eq_getElem hlt2) HE.out], (by repeat (first | exact Dr.refl _ | exact ⟨_, rfl⟩ | refine Dr.drewN ?_ _ | refine Dr.drew ?_))⟩
      · go_wp2
        go_ret
        exact ⟨by simp [eq_of_takes (k := k) (by omega) HL.out HS.out], (by repeat (first | exact Dr.refl _ | exact ⟨_, rfl⟩ | refine Dr.drewN ?_ _ | refine Dr.drew ?_))⟩
  · have hb : ((xs.length : Int) != (ys.length : Int)) = true := by simp; omega
    have hne : xs ≠ ys := fun e => hll (by rw [e])
    have HN := hide hne; clear hll hne
    go_enter Tryz.func179, Tryz.ntmps179
    go_wp2
    go_ret
    exact ⟨by simp [HN.out], Dr.refl _⟩
set_option maxHeartbeats 1000000 in
theorem c_sameAll (v u : Value) (xs ys : List (List Int)) (w : World) (hr : T.rd w (T.sl 24 1 (xs.map (T.ints 2))) [v]) (ht : T.rd w (T.sl 24 1 (ys.map (T.ints 2))) [u]) :
    Calls Tryz.prog 178 #[v, u] w fun e w' => e = .returned (.bool (decide (xs = ys))) ∧ Dr w w' := by
  obtain ⟨A1, cap1, rfl, hl1, hc1, hx1⟩ := T.rd_open hr
  obtain ⟨A2, cap2, rfl, hl2, hc2, hx2⟩ := T.rd_open ht
  rw [List.length_map] at hl1 hl2 ⊢
  rw [List.length_map]
  have HX1 := hide hx1; have HX2 := hide hx2; clear hx1 hx2 hr ht
  by_cases hll : xs.length = ys.length
  · have hb : ((xs.length : Int) != (ys.length : Int)) = false := by simp [hll]
    have HL := hide hll; clear hll
    go_enter Tryz.func178, Tryz.ntmps178
    go_wp2
    go_loopw [14] (fun i wr => ∃ k : Nat, k ≤ xs.length ∧ i = .int .i64 k ∧ xs.take k = ys.take k ∧ Dr w wr) (fun i _ => xs.length - (intOf i).toNat)
    case atStart => exact ⟨0, Nat.zero_le _, rfl, rfl, Dr.refl _⟩
    case round =>
      obtain ⟨k, hk, rfl, hs, nr, rfl⟩ := hrel
      have HS := hide hs; clear hs
      by_cases hlt : k < xs.length
      · have hlt2 : k < ys.length := by have := HL.out; omega
        obtain ⟨b1, o1, cs1, rfl, hb1, hcs1, hcell1⟩ := HX1.out k (T.ints 2 xs[k]) (by rw [List.getElem?_map, List.getElem?_eq_getElem hlt]; rfl)
        obtain ⟨b2, o2, cs2, rfl, hb2, hcs2, hcell2⟩ := HX2.out k (T.ints 2 ys[k]) (by rw [List.getElem?_map, List.getElem?_eq_getElem hlt2]; rfl)
        have hg1 := List.getElem?_eq_getElem hlt
        have hg2 := List.getElem?_eq_getElem hlt2
        generalize xs[k] = x at *
        generalize ys[k] = y at *
        have HG1 := hide hg1; have HG2 := hide hg2; clear hg1 hg2
        obtain ⟨v3, rfl⟩ := T.rd_one hcs1
        obtain ⟨v4, rfl⟩ := T.rd_one hcs2
        have d0 := hcell1 0 v3 rfl
        have g0 := hcell2 0 v4 rfl
        rw [Nat.mul_one, Nat.add_zero] at d0 g0
        have R1 := hide (show RdI (w.drewN nr) v3 x from Rd.drewN (T.rd_ints.1 hcs1) nr); have R2 := hide (show RdI (w.drewN nr) v4 y from Rd.drewN (T.rd_ints.1 hcs2) nr)
        clear hcs1 hcs2 hcell1 hcell2
        by_cases he : x = y
        · have hde : decide (x = y) = true := decide_eq_true he
          have HE := hide he; clear he
          go_wp2_with (go_at_call 179; refine (c_same _ _ x y _ R1.out R2.out).mono ?_; rintro e w3 ⟨rfl, hd3⟩; rw [hde])
          go_roundw
          case rel => exact ⟨k + 1, by omega, by go_num, takes_succ HS.out HG1.out (by rw [HE.out]; exact HG2.out), (Dr.drewN (Dr.refl _) _).trans hd3⟩
          case measure => simp [intOf]; omega
        · have hde : decide (x = y) = false := decide_eq_false he
          have HE := hide he; clear he
          go_wp2_with (go_at_call 179; refine (c_same _ _ x y _ R1.out R2.out).mono ?_; rintro e w3 ⟨rfl, hd3⟩; rw [hde])
          go_ret
          exact ⟨by simp [ne_at HG1.out HG2.out HE.out], (Dr.drewN (Dr.refl _) _).trans hd3⟩
      · go_wp2
        go_ret
        exact ⟨by simp [eq_of_takes (k := k) (by omega) HL.out HS.out], (by repeat (first | exact Dr.refl _ | exact ⟨_, rfl⟩ | refine Dr.drewN ?_ _ | refine Dr.drew ?_))⟩
  · have hb : ((xs.length : Int) != (ys.length : Int)) = true := by simp; omega
    have hne : xs ≠ ys := fun e => hll (by rw [e])
    have HN := hide hne; clear hll hne
    go_enter Tryz.func178, Tryz.ntmps178
    go_wp2
    go_ret
    exact ⟨by simp [HN.out], Dr.refl _⟩
set_option maxHeartbeats 1000000 in
set_option maxRecDepth 20000 in
theorem c_iSameNode (a b : GNode) (v3 : Value) (u3 : Value) (w : World) (r3 : T.rd w (T.ints 2 a.fFrom) [v3]) (t3 : T.rd w (T.ints 2 b.fFrom) [u3]) :
    Calls Tryz.prog 180 #[.agg #[.int .i64 a.fKind, .int .i64 a.fA, .int .i64 a.fB, v3], .agg #[.int .i64 b.fKind, .int .i64 b.fA, .int .i64 b.fB, u3]] w fun e w' => e = .returned (.bool (decide (a = b))) ∧ Below w.heap.size w w' := by
  have hab : decide (a = b) = (decide (a.fKind = b.fKind) && (decide (a.fA = b.fA) && (decide (a.fB = b.fB) && (decide (a.fFrom = b.fFrom))))) := by
    obtain ⟨x0, x1, x2, x3⟩ := a
    obtain ⟨y0, y1, y2, y3⟩ := b
    rw [Bool.eq_iff_iff]
    simp only [GNode.mk.injEq, decide_eq_true_eq, Bool.and_eq_true]
    try (constructor <;> (intro h; simp [h]))
  have R3 := hide r3; have Q3 := hide t3
  obtain ⟨va3, vl3, vc3, rfl⟩ := T.rd_slice r3
  obtain ⟨ua3, ul3, uc3, rfl⟩ := T.rd_slice t3
  clear r3 t3
  have HAB := hide hab; clear hab
  have HB0 := hide (show Below w.heap.size w ((w.alloc (.cells #[.int .i64 a.fKind, .int .i64 a.fA, .int .i64 a.fB, (.slice va3 vl3 vc3)] 207)).alloc (.cells #[.int .i64 b.fKind, .int .i64 b.fA, .int .i64 b.fB, (.slice ua3 ul3 uc3)] 207)) from ((Below.refl _ _).alloc (Nat.le_refl _) _).alloc (by first | (simp; done) | (simp; omega) | omega) _)
  have HKA0 := hide ((Bk.born w 207 #[.int .i64 a.fKind, .int .i64 a.fA, .int .i64 a.fB, (.slice va3 vl3 vc3)]).alloc (.cells #[.int .i64 b.fKind, .int .i64 b.fA, .int .i64 b.fB, (.slice ua3 ul3 uc3)] 207))
  have HKB0 := hide (Bk.born1' w (.cells #[.int .i64 a.fKind, .int .i64 a.fA, .int .i64 a.fB, (.slice va3 vl3 vc3)] 207) 207 #[.int .i64 b.fKind, .int .i64 b.fA, .int .i64 b.fB, (.slice ua3 ul3 uc3)])
  by_cases h0 : a.fKind = b.fKind
  · have e0 : (a.fKind == b.fKind) = true := by simp [h0]
    have H0 := hide h0; clear h0
    by_cases h1 : a.fA = b.fA
    · have e1 : (a.fA == b.fA) = true := by simp [h1]
      have H1 := hide h1; clear h1
      by_cases h2 : a.fB = b.fB
      · have e2 : (a.fB == b.fB) = true := by simp [h2]
        have H2 := hide h2; clear h2
        by_cases h3 : a.fFrom = b.fFrom
        · have c3 : decide (a.fFrom = b.fFrom) = true := by simp [h3]
          have H3 := hide h3; clear h3
          go_enter Tryz.func180, Tryz.ntmps180
          go_wp2_with fail
          refine (c_same _ _ a.fFrom b.fFrom _ (T.rd_ints.1 (T.rd_below R3.out HB0.out)) (T.rd_ints.1 (T.rd_below Q3.out HB0.out))).mono ?_; rintro e w1 ⟨rfl, hd⟩; rw [c3]
          have hb : Below (((w.alloc (.cells #[.int .i64 a.fKind, .int .i64 a.fA, .int .i64 a.fB, (.slice va3 vl3 vc3)] 207)).alloc (.cells #[.int .i64 b.fKind, .int .i64 b.fA, .int .i64 b.fB, (.slice ua3 ul3 uc3)] 207))).heap.size ((w.alloc (.cells #[.int .i64 a.fKind, .int .i64 a.fA, .int .i64 a.fB, (.slice va3 vl3 vc3)] 207)).alloc (.cells #[.int .i64 b.fKind, .int .i64 b.fA, .int .i64 b.fB, (.slice ua3 ul3 uc3)] 207)) w1 := by first | exact hd.to_below _ | exact hd
          have HKA1 := hide (HKA0.out.below hb HKA0.out.lt); have HKB1 := hide (HKB0.out.below hb HKB0.out.lt); have HB1 := hide (bthen HB0.out HB0.out.size hb); clear hb hd
          have ka1 := HKA1.out.cell; have kb1 := HKB1.out.cell
          go_wp2
          go_ret
          exact ⟨ret_bool (by rw [HAB.out]; simp [H0.out, H1.out, H2.out, H3.out]), HB1.out⟩
        · have c3 : decide (a.fFrom = b.fFrom) = false := by simp [h3]
          have H3 := hide h3; clear h3
          go_enter Tryz.func180, Tryz.ntmps180
          go_wp2_with fail
          refine (c_same _ _ a.fFrom b.fFrom _ (T.rd_ints.1 (T.rd_below R3.out HB0.out)) (T.rd_ints.1 (T.rd_below Q3.out HB0.out))).mono ?_; rintro e w1 ⟨rfl, hd⟩; rw [c3]
          have hb : Below (((w.alloc (.cells #[.int .i64 a.fKind, .int .i64 a.fA, .int .i64 a.fB, (.slice va3 vl3 vc3)] 207)).alloc (.cells #[.int .i64 b.fKind, .int .i64 b.fA, .int .i64 b.fB, (.slice ua3 ul3 uc3)] 207))).heap.size ((w.alloc (.cells #[.int .i64 a.fKind, .int .i64 a.fA, .int .i64 a.fB, (.slice va3 vl3 vc3)] 207)).alloc (.cells #[.int .i64 b.fKind, .int .i64 b.fA, .int .i64 b.fB, (.slice ua3 ul3 uc3)] 207)) w1 := by first | exact hd.to_below _ | exact hd
          have HKA1 := hide (HKA0.out.below hb HKA0.out.lt); have HKB1 := hide (HKB0.out.below hb HKB0.out.lt); have HB1 := hide (bthen HB0.out HB0.out.size hb); clear hb hd
          have ka1 := HKA1.out.cell; have kb1 := HKB1.out.cell
          go_wp2
          go_ret
          exact ⟨ret_bool (by rw [HAB.out]; simp [H0.out, H1.out, H2.out, H3.out]), HB1.out⟩
      · have e2 : (a.fB == b.fB) = false := by simp [h2]
        have H2 := hide h2; clear h2
        go_enter Tryz.func180, Tryz.ntmps180
        go_wp2
        go_ret
        exact ⟨ret_bool (by rw [HAB.out]; simp [H0.out, H1.out, H2.out]), HB0.out⟩
    · have e1 : (a.fA == b.fA) = false := by simp [h1]
      have H1 := hide h1; clear h1
      go_enter Tryz.func180, Tryz.ntmps180
      go_wp2
      go_ret
      exact ⟨ret_bool (by rw [HAB.out]; simp [H0.out, H1.out]), HB0.out⟩
  · have e0 : (a.fKind == b.fKind) = false := by simp [h0]
    have H0 := hide h0; clear h0
    go_enter Tryz.func180, Tryz.ntmps180
    go_wp2
    go_ret
    exact ⟨ret_bool (by rw [HAB.out]; simp [H0.out]), HB0.out⟩
end Go.Proofs.YteiflbhcehajkaaGreatDoor
end
