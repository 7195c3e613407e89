/- Contracts: valid caches, both sides. The words of the translation's head, without running through its whole list of roots; and the closed facts of a row out of them. The law ValidCache. -/
import Derived.Test.YtfifcnojkjjnkaaGreatQAwExactReadCache
import Derived.Test.YtfifcnojkjjnkaaGreatQAxExactReadCache
import Derived.Test.YtfifcnojkjjnkaaGreatRows
import Derived.ProofKit
import Derived.Test.YtfifcnojkjjnkaaGreatQAhExactReadCache
import Derived.Deep.RegionHeld3
set_option linter.unusedVariables false
set_option linter.unusedSimpArgs false
section
namespace Go.Proofs.YtfifcnojkjjnkaaGreat
open Go.RowKit
set_option maxHeartbeats 2000000 in
set_option maxRecDepth 20000 in
theorem c_l00Rises (v : Value) (xs : List Int) (lo hi : Int) (w : World) (hr : RdI w v xs) : Calls Tryz.prog 136 #[v, .int .i64 lo, .int .i64 hi] w fun e w' => e = .returned (.bool (tf (Each xs (fun i x => inB x lo hi = true ∧ ∀ p, 0 < i → xs[i - 1]? = some p → p < x)))) ∧ Below w.heap.size w w' := by
  obtain ⟨A, cap, rfl, hl, hc, hx⟩ := hr.open_
  have HX := hide hx; clear hx hr
  go_enter Tryz.func136, Tryz.ntmps136
  go_wp2
  go_loopw [7] (fun i wr => ∃ k : Nat, k ≤ xs.length ∧ i = .int .i64 k ∧ Upto xs (fun i x => inB x lo hi = true ∧ ∀ p, 0 < i → xs[i - 1]? = some p → p < x) k ∧ Below w.heap.size w wr) (fun i _ => xs.length - (intOf i).toNat)
  case atStart => exact ⟨0, Nat.zero_le _, rfl, Upto.zero, Below.refl _ _⟩
  case round =>
    obtain ⟨k, hk, rfl, hs, hbw⟩ := hrel
    have HS := hide hs; have HB := hide hbw; clear hs hbw
    by_cases hlt : k < xs.length
    rotate_left
    · have hall := hide (HS.out.all (by omega)); clear HS
      go_wp2
      go_ret
      exact ⟨ret_bool (tf_yes hall.out).symm, HB.out⟩
    have hgk := List.getElem?_eq_getElem hlt
    obtain ⟨b, off, rfl, hb, hcell⟩ := HX.out k xs[k] hgk
    generalize xs[k] = y at *
    have HG := hide hgk; clear hgk
    have cy := (HB.out.cell hb).trans hcell
    have n1 : ((k : Int) < (xs.length : Int)) := by omega
    have g0 := bel_cell cy
    by_cases hk0 : k = 0
    · have d0 : decide (0 < k) = false := decide_eq_false (by omega)
      have K0 := hide hk0; clear hk0
      cases q1 : inB y lo hi
      all_goals
        go_wp2
        refine wp_region_bel (by kernel_rfl) (by kernel_rfl) ?_
        repeat (first | go_big_quiet_skip | (go_big_quiet_want; go_big_quiet_op; first | go_big_quiet_on | (apply Exists.intro; refine ⟨fun _ => ?_, ?_⟩; (· ((go_at_call 71; exact Calls.quiet_bel_same ((c_l00In _ _ _ _).mono (fun e w' h => by (first | rw [q1] at h | skip); exact h))))); go_big_quiet_on)))
        refine wpQuiet_nil ?_
        rintro w9 ⟨uu, rfl⟩
        have hb9 := bel_below wr uu
        generalize bel wr uu = w9 at *
        have HB9 := hide (bthen HB.out HB.out.size hb9); clear hb9
        go_wp2
      · go_ret
        exact ⟨ret_bool (tf_no fun h => by have h1 := (h k y HG.out).1; rw [q1] at h1; exact absurd h1 (by simp)).symm, HB9.out⟩
      · go_roundw
        case rel => exact ⟨k + 1, by omega, by go_num, HS.out.step HG.out ⟨q1, fun p h => by have := K0.out; omega⟩, HB9.out⟩
        case measure => simp [intOf]; omega
    obtain ⟨j, rfl⟩ : ∃ j, k = j + 1 := ⟨k - 1, by omega⟩
    have hltj : j < xs.length := by omega
    have hgj := List.getElem?_eq_getElem hltj
    obtain ⟨b2, off2, hA, hb2, hcell2⟩ := HX.out j xs[j] hgj
    obtain ⟨rfl, rfl⟩ : b = b2 ∧ off = off2 := by injection hA with hA; injection hA with e1 e2; exact ⟨e1, e2⟩
    generalize xs[j] = z at *
    have HJ := hide hgj; clear hgj hA
    have cz := (HB.out.cell hb2).trans hcell2
    have g1 := bel_cell cz
    have e1 : IntKind.i64.wrap ((j : Int) + 1 - 1) = (j : Int) := by rw [IntWalk.i64_in _ (by omega)]; omega
    have e2 : IntKind.i64.wrap (j : Int) = (j : Int) := IntWalk.i64_in _ (by omega)
    have n0 : (0 : Int) ≤ (j : Int) := by omega
    have n2 : ((j : Int) < (xs.length : Int)) := by omega
    have n3 : ((j : Int) + 1 < (xs.length : Int)) := by omega
    have n4 : (0 : Int) ≤ (j : Int) + 1 := by omega
    cases q1 : inB y lo hi
    · go_wp2
      refine wp_region_bel (by kernel_rfl) (by kernel_rfl) ?_
      repeat (first | go_big_quiet_skip | (go_big_quiet_want; go_big_quiet_op; first | go_big_quiet_on | (apply Exists.intro; refine ⟨fun _ => ?_, ?_⟩; (· ((go_at_call 71; exact Calls.quiet_bel_same ((c_l00In _ _ _ _).mono (fun e w' h => by (first | rw [q1] at h | skip); exact h))))); go_big_quiet_on)))
      refine wpQuiet_nil ?_
      rintro w9 ⟨uu, rfl⟩
      have hb9 := bel_below wr uu
      generalize bel wr uu = w9 at *
      have HB9 := hide (bthen HB.out HB.out.size hb9); clear hb9
      go_wp2
      go_ret
      exact ⟨ret_bool (tf_no fun h => by have h1 := (h (j + 1) y HG.out).1; rw [q1] at h1; exact absurd h1 (by simp)).symm, HB9.out⟩
    by_cases q2 : y ≤ z
    · have d2 : decide (y ≤ z) = true := decide_eq_true q2
      have Q2 := hide q2
      go_wp2
      refine wp_region_bel (by kernel_rfl) (by kernel_rfl) ?_
      repeat (first | go_big_quiet_skip | (go_big_quiet_want; go_big_quiet_op; first | go_big_quiet_on | (apply Exists.intro; refine ⟨fun _ => ?_, ?_⟩; (· ((go_at_call 71; exact Calls.quiet_bel_same ((c_l00In _ _ _ _).mono (fun e w' h => by (first | rw [q1] at h | skip); exact h))))); go_big_quiet_on)))
      refine wpQuiet_nil ?_
      rintro w9 ⟨uu, rfl⟩
      have hb9 := bel_below wr uu
      generalize bel wr uu = w9 at *
      have HB9 := hide (bthen HB.out HB.out.size hb9); clear hb9
      go_wp2
      go_ret
      exact ⟨ret_bool (tf_no fun h => by have h1 := (h (j + 1) y HG.out).2 z (by omega) HJ.out; have := Q2.out; omega).symm, HB9.out⟩
    have d2 : decide (y ≤ z) = false := decide_eq_false q2
    go_wp2
    refine wp_region_bel (by kernel_rfl) (by kernel_rfl) ?_
    repeat (first | go_big_quiet_skip | (go_big_quiet_want; go_big_quiet_op; first | go_big_quiet_on | (apply Exists.intro; refine ⟨fun _ => ?_, ?_⟩; (· ((go_at_call 71; exact Calls.quiet_bel_same ((c_l00In _ _ _ _).mono (fun e w' h => by (first | rw [q1] at h | skip); exact h))))); go_big_quiet_on)))
    refine wpQuiet_nil ?_
    rintro w9 ⟨uu, rfl⟩
    have hb9 := bel_below wr uu
    generalize bel wr uu = w9 at *
    have HB9 := hide (bthen HB.out HB.out.size hb9); clear hb9
    go_wp2
    go_roundw
    case rel => exact ⟨j + 1 + 1, by omega, by go_num, HS.out.step HG.out ⟨q1, fun p _ hp => by rw [Nat.add_sub_cancel, HJ.out] at hp; injection hp with hp; subst hp; omega⟩, HB9.out⟩
    case measure => simp [intOf]; omega
theorem c_l31Blocks (n : Int) (w : World) (h0 : 0 ≤ n) (h1 : n ≤ 1000) : Calls Tryz.prog 137 #[.int .i64 n] w fun e w' => e = .returned (.int .i64 (blocksF n)) ∧ w = w' := by
  go_enter Tryz.func137, Tryz.ntmps137
  go_wp2
  go_ret
  exact ⟨ret_int (by unfold blocksF; omega), rfl⟩
set_option maxHeartbeats 2000000 in
set_option maxRecDepth 20000 in
theorem c_iBlocks (x : GSession) (cs : List Value) (w : World) (h0 : 0 ≤ x.fLength) (h1 : x.fLength ≤ 1000) (h : T.rds w x.fs cs) : Calls Tryz.prog 141 #[.agg cs.toArray] w fun e w' => e = .returned (.int .i64 (blocksF x.fLength)) ∧ Below w.heap.size w w' := by
  obtain ⟨v1, v2, v3, v4, v5, rfl, h1, h2, h3, h4, h5⟩ := GSession.rd_open h
  clear h
  have R1 := hide h1; obtain ⟨va1, vc1, rfl, vl1, vm1, vx1⟩ := T.rd_openG h1
  have HX1 := hide vx1; clear vx1 h1
  have R2 := hide h2; obtain ⟨va2, vc2, rfl, vl2, vm2, vx2⟩ := T.rd_openG h2
  have HX2 := hide vx2; clear vx2 h2
  have h3i := T.rd_ints.1 h3; obtain ⟨va3, vc3, rfl, vl3, vm3, vx3⟩ := h3i.open_
  have R3 := hide h3i; have HX3 := hide vx3; clear vx3 h3 h3i
  have R4 := hide h4; obtain ⟨va4, vc4, rfl, vl4, vm4, vx4⟩ := T.rd_openG h4
  have HX4 := hide vx4; clear vx4 h4
  have R5 := hide h5; obtain ⟨va5, vc5, rfl, vl5, vm5, vx5⟩ := T.rd_openG h5
  have HX5 := hide vx5; clear vx5 h5
  have HB0 := hide (show Below w.heap.size w (w.alloc (.cells #[.int .i64 x.fLength, (.slice va1 x.fSources.length vc1), (.slice va2 x.fTracks.length vc2), (.slice va3 x.fFeeds.length vc3), (.slice va4 x.fEffects.length vc4), (.slice va5 x.fMixer.fStrips.length vc5)] 62)) from (Below.refl _ _).alloc (Nat.le_refl _) _)
  have HK0 := hide (Bk.born w 62 #[.int .i64 x.fLength, (.slice va1 x.fSources.length vc1), (.slice va2 x.fTracks.length vc2), (.slice va3 x.fFeeds.length vc3), (.slice va4 x.fEffects.length vc4), (.slice va5 x.fMixer.fStrips.length vc5)])
  go_enter Tryz.func141, Tryz.ntmps141
  go_wp2
  go_ret
  exact ⟨ret_int (by unfold blocksF; omega), HB0.out⟩
set_option maxHeartbeats 2000000 in
set_option maxRecDepth 20000 in
theorem c_l31Cache (x : GCache) (b o : Nat) (w : World) (hs : x.fSession.small) (h : T.at w x.fs b o) : Calls Tryz.prog 69 #[.pointer (some ⟨b, o, none⟩)] w fun e w' => e = .returned (.bool (tf (CacheOk x))) ∧ Below w.heap.size w w' := by
  have HAT := hide h
  obtain ⟨hlt0, cs, hr, hc⟩ := h
  obtain ⟨v1, v2, v3, v4, v5, v6, v7, rfl, h1, h2, h3, h4, h5, h6, h7⟩ := GCache.rd_open hr
  clear hr
  have R1 := hide h1; obtain ⟨va1, vc1, rfl, vl1, vm1, vx1⟩ := T.rd_openG h1
  have HX1 := hide vx1; clear vx1 h1
  have R2 := hide h2; obtain ⟨va2, vc2, rfl, vl2, vm2, vx2⟩ := T.rd_openG h2
  have HX2 := hide vx2; clear vx2 h2
  have h3i := T.rd_ints.1 h3; obtain ⟨va3, vc3, rfl, vl3, vm3, vx3⟩ := h3i.open_
  have R3 := hide h3i; have HX3 := hide vx3; clear vx3 h3 h3i
  have R4 := hide h4; obtain ⟨va4, vc4, rfl, vl4, vm4, vx4⟩ := T.rd_openG h4
  have HX4 := hide vx4; clear vx4 h4
  have R5 := hide h5; obtain ⟨va5, vc5, rfl, vl5, vm5, vx5⟩ := T.rd_openG h5
  have HX5 := hide vx5; clear vx5 h5
  have h6i := T.rd_ints.1 h6; obtain ⟨va6, vc6, rfl, vl6, vm6, vx6⟩ := h6i.open_
  have R6 := hide h6i; have HX6 := hide vx6; clear vx6 h6 h6i
  have h7i := T.rd_ints.1 h7; obtain ⟨va7, vc7, rfl, vl7, vm7, vx7⟩ := h7i.open_
  have R7 := hide h7i; have HX7 := hide vx7; clear vx7 h7 h7i
  have HL := hide hlt0; have HCC := hide hc; have HB0 := hide (Below.refl w.heap.size w); clear hlt0 hc
  have HATS := hide (show T.at w x.fSession.fs b o from T.at_sub [] [.int .i64 x.fSession.fLength, (.slice va1 x.fSession.fSources.length vc1), (.slice va2 x.fSession.fTracks.length vc2), (.slice va3 x.fSession.fFeeds.length vc3), (.slice va4 x.fSession.fEffects.length vc4), (.slice va5 x.fSession.fMixer.fStrips.length vc5)] [(.slice va6 x.fMix.length vc6), (.slice va7 x.fDirty.length vc7)] HL.out HCC.out (GSession.rd_mk R1.out R2.out (T.rd_ints.2 R3.out) R4.out R5.out))
  have HSM := hide hs; clear hs
  have p0 : w.cell? ⟨b, o, none⟩ = some (.int .i64 x.fSession.fLength) := (HB0.out.cell HL.out).trans (HCC.out 0 _ rfl)
  have p1 : w.cell? ⟨b, o + 1, none⟩ = some (.slice va1 x.fSession.fSources.length vc1) := (HB0.out.cell HL.out).trans (HCC.out 1 _ rfl)
  have p2 : w.cell? ⟨b, o + 2, none⟩ = some (.slice va2 x.fSession.fTracks.length vc2) := (HB0.out.cell HL.out).trans (HCC.out 2 _ rfl)
  have p3 : w.cell? ⟨b, o + 3, none⟩ = some (.slice va3 x.fSession.fFeeds.length vc3) := (HB0.out.cell HL.out).trans (HCC.out 3 _ rfl)
  have p4 : w.cell? ⟨b, o + 4, none⟩ = some (.slice va4 x.fSession.fEffects.length vc4) := (HB0.out.cell HL.out).trans (HCC.out 4 _ rfl)
  have p5 : w.cell? ⟨b, o + 5, none⟩ = some (.slice va5 x.fSession.fMixer.fStrips.length vc5) := (HB0.out.cell HL.out).trans (HCC.out 5 _ rfl)
  have p6 : w.cell? ⟨b, o + 6, none⟩ = some (.slice va6 x.fMix.length vc6) := (HB0.out.cell HL.out).trans (HCC.out 6 _ rfl)
  have p7 : w.cell? ⟨b, o + 7, none⟩ = some (.slice va7 x.fDirty.length vc7) := (HB0.out.cell HL.out).trans (HCC.out 7 _ rfl)
  have lb : b < w.heap.size := Nat.lt_of_lt_of_le HL.out HB0.out.size
  go_enter Tryz.func69, Tryz.ntmps69
  go_wp2
  by_cases q1 : SessionOk x.fSession
  rotate_left
  · have a1 := tf_no q1; have Q1 := hide q1; clear q1
    have g0 := bel_cell p0
    have g1 := bel_cell p6
    have g2 := bel_cell p7
    refine wp_region_bel (by kernel_rfl) (by kernel_rfl) ?_
    repeat (first | go_big_quiet_skip | (go_big_quiet_want; go_big_quiet_op; first | go_big_quiet_on | (apply Exists.intro; refine ⟨fun _ => ?_, ?_⟩; (· ((go_at_call 117; exact Calls.quiet_bel ((c_l27Ok x.fSession _ _ _ HSM.out (T.at_below HATS.out (bel_below w _))).mono (fun e w' h => by (first | rw [a1] at h | skip); exact h))))); go_big_quiet_on)))
    refine wpQuiet_nil ?_
    rintro w9 ⟨uu, rfl⟩
    have hb9 := bel_below w uu
    generalize bel w uu = w9 at *
    have HB9 := hide (bthen HB0.out HB0.out.size hb9); clear g0 g1 g2
    go_wp2
    go_ret
    exact ⟨ret_bool (tf_no fun h => Q1.out h.session).symm, HB9.out⟩
  have a1 := tf_yes q1; have Q1 := hide q1; clear q1
  have i1 := inB_iff.1 Q1.out.length
  cases q2 : sigB x.fMix
  · have hneg := hide (show CacheOk x → False from fun h => by
      have h1 := h.length; have h2 := h.mix
      have h3 : sigB x.fMix = true := by unfold sigB; rw [h2]; simp; omega
      rw [q2] at h3
      exact absurd h3 (by simp))
    have g0 := bel_cell p0
    have g1 := bel_cell p6
    have g2 := bel_cell p7
    refine wp_region_bel (by kernel_rfl) (by kernel_rfl) ?_
    repeat (first | go_big_quiet_skip | (go_big_quiet_want; go_big_quiet_op; first | go_big_quiet_on | (apply Exists.intro; refine ⟨fun _ => ?_, ?_⟩; (· (first | (go_at_call 117; exact Calls.quiet_bel ((c_l27Ok x.fSession _ _ _ HSM.out (T.at_below HATS.out (bel_below w _))).mono (fun e w' h => by (first | rw [a1] at h | skip); exact h))) | (go_at_call 135; exact Calls.quiet_bel_same ((c_l03Ok _ x.fMix _ (Rd.below R6.out (bel_below w _))).mono (fun e w' h => by (first | rw [q2] at h | skip); exact h))))); go_big_quiet_on)))
    refine wpQuiet_nil ?_
    rintro w9 ⟨uu, rfl⟩
    have hb9 := bel_below w uu
    generalize bel w uu = w9 at *
    have HB9 := hide (bthen HB0.out HB0.out.size hb9); clear g0 g1 g2
    go_wp2
    go_ret
    exact ⟨ret_bool (tf_no fun h => hneg.out h).symm, HB9.out⟩
  have hsm := hide (show smpB x.fMix = true by unfold sigB at q2; simp at q2; exact q2.2)
  by_cases q3 : (x.fMix.length : Int) = x.fSession.fLength
  rotate_left
  · have b3 : ((x.fMix.length : Int) == x.fSession.fLength) = false := beqI_f q3; have Q3 := hide q3; clear q3
    have g0 := bel_cell p0
    have g1 := bel_cell p6
    have g2 := bel_cell p7
    refine wp_region_bel (by kernel_rfl) (by kernel_rfl) ?_
    repeat (first | go_big_quiet_skip | (go_big_quiet_want; go_big_quiet_op; first | go_big_quiet_on | (apply Exists.intro; refine ⟨fun _ => ?_, ?_⟩; (· (first | (go_at_call 117; exact Calls.quiet_bel ((c_l27Ok x.fSession _ _ _ HSM.out (T.at_below HATS.out (bel_below w _))).mono (fun e w' h => by (first | rw [a1] at h | skip); exact h))) | (go_at_call 135; exact Calls.quiet_bel_same ((c_l03Ok _ x.fMix _ (Rd.below R6.out (bel_below w _))).mono (fun e w' h => by (first | rw [q2] at h | skip); exact h))))); go_big_quiet_on)))
    refine wpQuiet_nil ?_
    rintro w9 ⟨uu, rfl⟩
    have hb9 := bel_below w uu
    generalize bel w uu = w9 at *
    have HB9 := hide (bthen HB0.out HB0.out.size hb9); clear g0 g1 g2
    go_wp2
    go_ret
    exact ⟨ret_bool (tf_no fun h => Q3.out h.length).symm, HB9.out⟩
  have b3 : ((x.fMix.length : Int) == x.fSession.fLength) = true := beqI_t q3; have Q3 := hide q3; clear q3
  have e5 : IntKind.i64.wrap (blocksF x.fSession.fLength - 1) = blocksF x.fSession.fLength - 1 := IntWalk.i64_in _ (by unfold blocksF; omega)
  by_cases q4 : Each x.fDirty (fun i x_1 => inB x_1 0 (blocksF x.fSession.fLength - 1) = true ∧ ∀ p, 0 < i → x.fDirty[i - 1]? = some p → p < x_1)
  rotate_left
  · have a4 := tf_no q4; have Q4 := hide q4; clear q4
    have g0 := bel_cell p0
    have g1 := bel_cell p6
    have g2 := bel_cell p7
    refine wp_region_bel (by kernel_rfl) (by kernel_rfl) ?_
    repeat (first | go_big_quiet_skip | (go_big_quiet_want; go_big_quiet_op; first | go_big_quiet_on | (apply Exists.intro; refine ⟨fun _ => ?_, ?_⟩; (· (first | (go_at_call 117; exact Calls.quiet_bel ((c_l27Ok x.fSession _ _ _ HSM.out (T.at_below HATS.out (bel_below w _))).mono (fun e w' h => by (first | rw [a1] at h | skip); exact h))) | (go_at_call 135; exact Calls.quiet_bel_same ((c_l03Ok _ x.fMix _ (Rd.below R6.out (bel_below w _))).mono (fun e w' h => by (first | rw [q2] at h | skip); exact h))) | (go_at_call 137; exact Calls.quiet_bel_same (c_l31Blocks _ _ i1.1 i1.2)) | (go_at_call 136; exact Calls.quiet_bel ((c_l00Rises _ x.fDirty _ _ _ (Rd.below R7.out (bel_below w _))).mono (fun e w' h => by (first | rw [a4] at h | skip); exact h))))); go_big_quiet_on)))
    refine wpQuiet_nil ?_
    rintro w9 ⟨uu, rfl⟩
    have hb9 := bel_below w uu
    generalize bel w uu = w9 at *
    have HB9 := hide (bthen HB0.out HB0.out.size hb9); clear g0 g1 g2
    go_wp2
    go_ret
    exact ⟨ret_bool (tf_no fun h => Q4.out (fun i d hd => ⟨inB_iff.2 (h.dirty i d hd).1, (h.dirty i d hd).2⟩)).symm, HB9.out⟩
  have a4 := tf_yes q4; have Q4 := hide q4; clear q4
  have g0 := bel_cell p0
  have g1 := bel_cell p6
  have g2 := bel_cell p7
  refine wp_region_bel (by kernel_rfl) (by kernel_rfl) ?_
  repeat (first | go_big_quiet_skip | (go_big_quiet_want; go_big_quiet_op; first | go_big_quiet_on | (apply Exists.intro; refine ⟨fun _ => ?_, ?_⟩; (· (first | (go_at_call 117; exact Calls.quiet_bel ((c_l27Ok x.fSession _ _ _ HSM.out (T.at_below HATS.out (bel_below w _))).mono (fun e w' h => by (first | rw [a1] at h | skip); exact h))) | (go_at_call 135; exact Calls.quiet_bel_same ((c_l03Ok _ x.fMix _ (Rd.below R6.out (bel_below w _))).mono (fun e w' h => by (first | rw [q2] at h | skip); exact h))) | (go_at_call 137; exact Calls.quiet_bel_same (c_l31Blocks _ _ i1.1 i1.2)) | (go_at_call 136; exact Calls.quiet_bel ((c_l00Rises _ x.fDirty _ _ _ (Rd.below R7.out (bel_below w _))).mono (fun e w' h => by (first | rw [a4] at h | skip); exact h))))); go_big_quiet_on)))
  refine wpQuiet_nil ?_
  rintro w9 ⟨uu, rfl⟩
  have hb9 := bel_below w uu
  generalize bel w uu = w9 at *
  have HB9 := hide (bthen HB0.out HB0.out.size hb9); clear g0 g1 g2
  go_wp2
  go_ret
  exact ⟨ret_bool (tf_yes ⟨Q1.out, Q3.out, hsm.out, fun i d hd => ⟨inB_iff.1 (Q4.out i d hd).1, (Q4.out i d hd).2⟩⟩).symm, HB9.out⟩
set_option maxHeartbeats 2000000 in
set_option maxRecDepth 20000 in
theorem c_isCache (x : GCache) (cs : List Value) (w : World) (hs : x.fSession.small) (h : T.rds w x.fs cs) : Calls Tryz.prog 70 #[.agg cs.toArray] w fun e w' => e = .returned (.bool (tf (CacheOk x))) ∧ Below w.heap.size w w' := by
  obtain ⟨v1, v2, v3, v4, v5, v6, v7, rfl, h1, h2, h3, h4, h5, h6, h7⟩ := GCache.rd_open h
  clear h
  have R1 := hide h1; obtain ⟨va1, vc1, rfl, vl1, vm1, vx1⟩ := T.rd_openG h1
  have HX1 := hide vx1; clear vx1 h1
  have R2 := hide h2; obtain ⟨va2, vc2, rfl, vl2, vm2, vx2⟩ := T.rd_openG h2
  have HX2 := hide vx2; clear vx2 h2
  have h3i := T.rd_ints.1 h3; obtain ⟨va3, vc3, rfl, vl3, vm3, vx3⟩ := h3i.open_
  have R3 := hide h3i; have HX3 := hide vx3; clear vx3 h3 h3i
  have R4 := hide h4; obtain ⟨va4, vc4, rfl, vl4, vm4, vx4⟩ := T.rd_openG h4
  have HX4 := hide vx4; clear vx4 h4
  have R5 := hide h5; obtain ⟨va5, vc5, rfl, vl5, vm5, vx5⟩ := T.rd_openG h5
  have HX5 := hide vx5; clear vx5 h5
  have h6i := T.rd_ints.1 h6; obtain ⟨va6, vc6, rfl, vl6, vm6, vx6⟩ := h6i.open_
  have R6 := hide h6i; have HX6 := hide vx6; clear vx6 h6 h6i
  have h7i := T.rd_ints.1 h7; obtain ⟨va7, vc7, rfl, vl7, vm7, vx7⟩ := h7i.open_
  have R7 := hide h7i; have HX7 := hide vx7; clear vx7 h7 h7i
  have HB0 := hide (show Below w.heap.size w (w.alloc (.cells #[.int .i64 x.fSession.fLength, (.slice va1 x.fSession.fSources.length vc1), (.slice va2 x.fSession.fTracks.length vc2), (.slice va3 x.fSession.fFeeds.length vc3), (.slice va4 x.fSession.fEffects.length vc4), (.slice va5 x.fSession.fMixer.fStrips.length vc5), (.slice va6 x.fMix.length vc6), (.slice va7 x.fDirty.length vc7)] 72)) from (Below.refl _ _).alloc (Nat.le_refl _) _)
  have HK0 := hide (Bk.born w 72 #[.int .i64 x.fSession.fLength, (.slice va1 x.fSession.fSources.length vc1), (.slice va2 x.fSession.fTracks.length vc2), (.slice va3 x.fSession.fFeeds.length vc3), (.slice va4 x.fSession.fEffects.length vc4), (.slice va5 x.fSession.fMixer.fStrips.length vc5), (.slice va6 x.fMix.length vc6), (.slice va7 x.fDirty.length vc7)])
  have HSM := hide hs; clear hs
  go_enter Tryz.func70, Tryz.ntmps70
  go_wp2
  generalize (w.alloc (.cells #[.int .i64 x.fSession.fLength, (.slice va1 x.fSession.fSources.length vc1), (.slice va2 x.fSession.fTracks.length vc2), (.slice va3 x.fSession.fFeeds.length vc3), (.slice va4 x.fSession.fEffects.length vc4), (.slice va5 x.fSession.fMixer.fStrips.length vc5), (.slice va6 x.fMix.length vc6), (.slice va7 x.fDirty.length vc7)] 72)) = W at *
  have g0 := bel_bk HK0.out; have lW := HK0.out.lt
  have HRW := hide (fun u => GSession.rd_mk (T.rd_below R1.out (bthen HB0.out HB0.out.size (bel_below W u))) (T.rd_below R2.out (bthen HB0.out HB0.out.size (bel_below W u))) (T.rd_ints.2 (Rd.below R3.out (bthen HB0.out HB0.out.size (bel_below W u)))) (T.rd_below R4.out (bthen HB0.out HB0.out.size (bel_below W u))) (T.rd_below R5.out (bthen HB0.out HB0.out.size (bel_below W u))))
  by_cases q1 : SessionOk x.fSession
  rotate_left
  · have a1 := tf_no q1; have Q1 := hide q1; clear q1
    refine wp_region_bel (by kernel_rfl) (by kernel_rfl) ?_
    repeat (first | go_big_quiet_skip | (go_big_quiet_want; go_big_quiet_op; first | go_big_quiet_on | (apply Exists.intro; refine ⟨fun _ => ?_, ?_⟩; (· (first | (go_at_call 85; exact Calls.quiet_bel ((c_isSession x.fSession _ _ HSM.out (HRW.out _)).mono (fun e w' h => by (first | rw [a1] at h | skip); exact h))))); go_big_quiet_on)))
    refine wpQuiet_nil ?_
    rintro w9 ⟨uu, rfl⟩
    have hb9 := bel_below W uu
    generalize bel W uu = w9 at *
    have HB9 := hide (bthen HB0.out HB0.out.size hb9)
    go_wp2
    go_ret
    exact ⟨ret_bool (tf_no fun h => Q1.out h.session).symm, HB9.out⟩
  have a1 := tf_yes q1; have Q1 := hide q1; clear q1
  have i1 := inB_iff.1 Q1.out.length
  by_cases q3 : (x.fMix.length : Int) = x.fSession.fLength
  rotate_left
  · have b3 : ((x.fMix.length : Int) != x.fSession.fLength) = true := bneI_t q3; have Q3 := hide q3; clear q3
    refine wp_region_bel (by kernel_rfl) (by kernel_rfl) ?_
    repeat (first | go_big_quiet_skip | (go_big_quiet_want; go_big_quiet_op; first | go_big_quiet_on | (apply Exists.intro; refine ⟨fun _ => ?_, ?_⟩; (· (first | (go_at_call 85; exact Calls.quiet_bel ((c_isSession x.fSession _ _ HSM.out (HRW.out _)).mono (fun e w' h => by (first | rw [a1] at h | skip); exact h))) | (go_at_call 138; exact Calls.quiet_bel_same (c_size _ x.fMix _ (Rd.below R6.out (bthen HB0.out HB0.out.size (bel_below W _))))))); go_big_quiet_on)))
    refine wpQuiet_nil ?_
    rintro w9 ⟨uu, rfl⟩
    have hb9 := bel_below W uu
    generalize bel W uu = w9 at *
    have HB9 := hide (bthen HB0.out HB0.out.size hb9)
    go_wp2
    go_ret
    exact ⟨ret_bool (tf_no fun h => Q3.out h.length).symm, HB9.out⟩
  have b3 : ((x.fMix.length : Int) != x.fSession.fLength) = false := bneI_f q3; have Q3 := hide q3; clear q3
  cases q2 : smpB x.fMix
  · skip
    refine wp_region_bel (by kernel_rfl) (by kernel_rfl) ?_
    repeat (first | go_big_quiet_skip | (go_big_quiet_want; go_big_quiet_op; first | go_big_quiet_on | (apply Exists.intro; refine ⟨fun _ => ?_, ?_⟩; (· (first | (go_at_call 85; exact Calls.quiet_bel ((c_isSession x.fSession _ _ HSM.out (HRW.out _)).mono (fun e w' h => by (first | rw [a1] at h | skip); exact h))) | (go_at_call 138; exact Calls.quiet_bel_same (c_size _ x.fMix _ (Rd.below R6.out (bthen HB0.out HB0.out.size (bel_below W _))))) | (go_at_call 139; exact Calls.quiet_bel_same ((c_areSamples _ x.fMix _ (Rd.below R6.out (bthen HB0.out HB0.out.size (bel_below W _)))).mono (fun e w' h => by (first | rw [q2] at h | skip); exact h))))); go_big_quiet_on)))
    refine wpQuiet_nil ?_
    rintro w9 ⟨uu, rfl⟩
    have hb9 := bel_below W uu
    generalize bel W uu = w9 at *
    have HB9 := hide (bthen HB0.out HB0.out.size hb9)
    go_wp2
    go_ret
    exact ⟨ret_bool (tf_no fun h => by have h1 := h.mix; rw [q2] at h1; exact absurd h1 (by simp)).symm, HB9.out⟩
  have bl : 0 ≤ blocksF x.fSession.fLength ∧ blocksF x.fSession.fLength ≤ 9223372036854775807 := by unfold blocksF; omega
  by_cases q4 : Idx x.fDirty (blocksF x.fSession.fLength)
  rotate_left
  · have a4 := tf_no q4; have Q4 := hide q4; clear q4
    refine wp_region_bel (by kernel_rfl) (by kernel_rfl) ?_
    repeat (first | go_big_quiet_skip | (go_big_quiet_want; go_big_quiet_op; first | go_big_quiet_on | (apply Exists.intro; refine ⟨fun _ => ?_, ?_⟩; (· (first | (go_at_call 85; exact Calls.quiet_bel ((c_isSession x.fSession _ _ HSM.out (HRW.out _)).mono (fun e w' h => by (first | rw [a1] at h | skip); exact h))) | (go_at_call 138; exact Calls.quiet_bel_same (c_size _ x.fMix _ (Rd.below R6.out (bthen HB0.out HB0.out.size (bel_below W _))))) | (go_at_call 139; exact Calls.quiet_bel_same ((c_areSamples _ x.fMix _ (Rd.below R6.out (bthen HB0.out HB0.out.size (bel_below W _)))).mono (fun e w' h => by (first | rw [q2] at h | skip); exact h))) | (go_at_call 141; exact Calls.quiet_bel (c_iBlocks x.fSession _ _ i1.1 i1.2 (HRW.out _))) | (go_at_call 140; exact Calls.quiet_bel_same ((c_areIndices _ x.fDirty _ _ (Rd.below R7.out (bthen HB0.out HB0.out.size (bel_below W _))) bl.1 bl.2).mono (fun e w' h => by (first | rw [a4] at h | skip); exact h))))); go_big_quiet_on)))
    refine wpQuiet_nil ?_
    rintro w9 ⟨uu, rfl⟩
    have hb9 := bel_below W uu
    generalize bel W uu = w9 at *
    have HB9 := hide (bthen HB0.out HB0.out.size hb9)
    go_wp2
    go_ret
    exact ⟨ret_bool (tf_no fun h => Q4.out (fun i d hd => (h.dirty i d hd).1)).symm, HB9.out⟩
  have a4 := tf_yes q4; have Q4 := hide q4; clear q4
  refine wp_region_bel (by kernel_rfl) (by kernel_rfl) ?_
  repeat (first | go_big_quiet_skip | (go_big_quiet_want; go_big_quiet_op; first | go_big_quiet_on | (apply Exists.intro; refine ⟨fun _ => ?_, ?_⟩; (· (first | (go_at_call 85; exact Calls.quiet_bel ((c_isSession x.fSession _ _ HSM.out (HRW.out _)).mono (fun e w' h => by (first | rw [a1] at h | skip); exact h))) | (go_at_call 138; exact Calls.quiet_bel_same (c_size _ x.fMix _ (Rd.below R6.out (bthen HB0.out HB0.out.size (bel_below W _))))) | (go_at_call 139; exact Calls.quiet_bel_same ((c_areSamples _ x.fMix _ (Rd.below R6.out (bthen HB0.out HB0.out.size (bel_below W _)))).mono (fun e w' h => by (first | rw [q2] at h | skip); exact h))) | (go_at_call 141; exact Calls.quiet_bel (c_iBlocks x.fSession _ _ i1.1 i1.2 (HRW.out _))) | (go_at_call 140; exact Calls.quiet_bel_same ((c_areIndices _ x.fDirty _ _ (Rd.below R7.out (bthen HB0.out HB0.out.size (bel_below W _))) bl.1 bl.2).mono (fun e w' h => by (first | rw [a4] at h | skip); exact h))))); go_big_quiet_on)))
  refine wpQuiet_nil ?_
  rintro w9 ⟨uu, rfl⟩
  have hb9 := bel_below W uu
  generalize bel W uu = w9 at *
  have HB9 := hide (bthen HB0.out HB0.out.size hb9)
  have HK9 := hide (HK0.out.below hb9 HK0.out.lt); clear hb9 g0 a1 a4 b3 bl lW
  have ka := HK9.out.cell; have la := HK9.out.lt
  go_wp2
  clear ka la
  go_loopw [3] (fun i wr => ∃ k : Nat, 1 ≤ k ∧ k ≤ x.fDirty.length + 1 ∧ i = .int .i64 k ∧ (∀ j d p, 0 < j → j < k → x.fDirty[j]? = some d → x.fDirty[j - 1]? = some p → p < d) ∧ Below w9.heap.size w9 wr) (fun i _ => x.fDirty.length + 1 - (intOf i).toNat)
  case atStart => exact ⟨1, by omega, by omega, rfl, fun j d p h1 h2 => by omega, Below.refl _ _⟩
  case round =>
    obtain ⟨k, hk1, hk, rfl, hs, hbw⟩ := hrel
    have HS := hide hs; have HW := hide hbw; have HB := hide (bthen HB9.out HB9.out.size hbw); have HK := hide (HK9.out.below hbw HK9.out.lt); clear hs hbw
    have ka := HK.out.cell; have la := HK.out.lt
    by_cases hlt : k < x.fDirty.length
    rotate_left
    · go_wp2
      go_ret
      exact ⟨ret_bool (tf_yes ⟨Q1.out, Q3.out, q2, fun i d hd => ⟨Q4.out i d hd, fun p h0 hp => HS.out i d p h0 (by have := (List.getElem?_eq_some_iff.1 hd).1; omega) hd hp⟩⟩).symm, HB.out⟩
    obtain ⟨j, rfl⟩ : ∃ j, k = j + 1 := ⟨k - 1, by omega⟩
    have hltj : j < x.fDirty.length := by omega
    have hgk := List.getElem?_eq_getElem hlt; have hgj := List.getElem?_eq_getElem hltj
    obtain ⟨b1, off, hA1, hb1, hc1⟩ := HX7.out (j + 1) x.fDirty[j + 1] hgk
    subst hA1
    obtain ⟨b2, off2, hA, hb2, hc2⟩ := HX7.out j x.fDirty[j] hgj
    obtain ⟨rfl, rfl⟩ : b1 = b2 ∧ off = off2 := by injection hA with hA; injection hA with e1 e2; exact ⟨e1, e2⟩
    generalize x.fDirty[j + 1] = y at *
    generalize x.fDirty[j] = z at *
    have HG := hide hgk; have HJ := hide hgj; clear hgk hgj hA
    have cy := (HB.out.cell hb1).trans hc1; have cz := (HB.out.cell hb2).trans hc2
    have g0 := bel_bk HK.out; have g1 := bel_cell cy; have g2 := bel_cell cz
    have e1 : IntKind.i64.wrap ((j : Int) + 1 - 1) = (j : Int) := by rw [IntWalk.i64_in _ (by omega)]; omega
    have e2 : IntKind.i64.wrap (j : Int) = (j : Int) := IntWalk.i64_in _ (by omega)
    have n0 : (0 : Int) ≤ (j : Int) := by omega
    have n2 : ((j : Int) < (x.fDirty.length : Int)) := by omega
    have n3 : ((j : Int) + 1 < (x.fDirty.length : Int)) := by omega
    have n4 : (0 : Int) ≤ (j : Int) + 1 := by omega
    by_cases q5 : y ≤ z
    · have d5 : decide (y ≤ z) = true := decide_eq_true q5; have Q5 := hide q5
      go_wp2
      refine wp_region_bel (by kernel_rfl) (by kernel_rfl) ?_
      repeat (first | go_big_quiet_skip | (go_big_quiet_want; go_big_quiet_op; first | go_big_quiet_on | (apply Exists.intro; refine ⟨fun _ => ?_, ?_⟩; (· (fail)); go_big_quiet_on)))
      refine wpQuiet_nil ?_
      rintro w9 ⟨uu, rfl⟩
      have hb9 := bel_below wr uu
      generalize bel wr uu = w9 at *
      have HBr := hide (bthen HB.out HB.out.size hb9); have HWr := hide (bthen HW.out HW.out.size hb9); clear hb9
      go_wp2
      go_ret
      exact ⟨ret_bool (tf_no fun h => by have h1 := (h.dirty (j + 1) y HG.out).2 z (by omega) HJ.out; have := Q5.out; omega).symm, HBr.out⟩
    have d5 : decide (y ≤ z) = false := decide_eq_false q5
    go_wp2
    refine wp_region_bel (by kernel_rfl) (by kernel_rfl) ?_
    repeat (first | go_big_quiet_skip | (go_big_quiet_want; go_big_quiet_op; first | go_big_quiet_on | (apply Exists.intro; refine ⟨fun _ => ?_, ?_⟩; (· (fail)); go_big_quiet_on)))
    refine wpQuiet_nil ?_
    rintro w9 ⟨uu, rfl⟩
    have hb9 := bel_below wr uu
    generalize bel wr uu = w9 at *
    have HBr := hide (bthen HB.out HB.out.size hb9); have HWr := hide (bthen HW.out HW.out.size hb9); clear hb9
    go_wp2
    go_roundw
    case rel => exact ⟨j + 1 + 1, by omega, by omega, by go_num, fun i d p h1 h2 hd hp => by
        by_cases e : i = j + 1
        · subst e
          rw [HG.out] at hd; injection hd with hd; subst hd
          rw [Nat.add_sub_cancel, HJ.out] at hp; injection hp with hp; subst hp
          omega
        · exact HS.out i d p h1 (by omega) hd hp, HWr.out⟩
    case measure => simp [intOf]; omega
end Go.Proofs.YtfifcnojkjjnkaaGreat
end
section
namespace Go.Proofs.YtfifcnojkjjnkaaGreat
open Go.ChangeShapes
theorem words_pre : ∀ (a r : List Char), (a.all fun c => c != Char.ofNat 32) = true → wordsSigns (a ++ Char.ofNat 32 :: r) = a :: wordsSigns r
  | [], r, _ => rfl
  | c :: a, r, h => by
    simp only [List.all_cons, Bool.and_eq_true, bne_iff_ne, ne_eq] at h
    have ih := words_pre a r (by simpa using h.2)
    rw [List.cons_append]
    conv => lhs; unfold wordsSigns
    split
    · rename_i e; cases e
    · rename_i e
      injection e with e1 _
      exact absurd e1 h.1
    · rename_i e
      injection e with e1 e2
      subst e1 e2
      rw [ih]
set_option maxRecDepth 100000 in
theorem head_list : ∃ l, Tryz.prog.initOrder = String.ofList l ∧ ("harness 4e7c5f64a61e3e0b3158d06a9505534fe08469d6518e9a1147d28d1ec529932b cut ".toList).isPrefixOf l = true := by
  refine ⟨_, rfl, ?_⟩
  kernel_rfl
theorem head_words : ∃ X, wordsSigns Tryz.prog.initOrder.toList = "harness".toList :: "4e7c5f64a61e3e0b3158d06a9505534fe08469d6518e9a1147d28d1ec529932b".toList :: "cut".toList :: X := by
  obtain ⟨l, hl, hp⟩ := head_list
  obtain ⟨r, hr⟩ := List.isPrefixOf_iff_prefix.1 hp
  have e : "harness 4e7c5f64a61e3e0b3158d06a9505534fe08469d6518e9a1147d28d1ec529932b cut ".toList = "harness".toList ++ Char.ofNat 32 :: ("4e7c5f64a61e3e0b3158d06a9505534fe08469d6518e9a1147d28d1ec529932b".toList ++ Char.ofNat 32 :: ("cut".toList ++ [Char.ofNat 32])) := by kernel_rfl
  refine ⟨wordsSigns r, ?_⟩
  rw [hl, String.toList_ofList, ← hr, e]
  simp only [List.append_assoc, List.cons_append, List.nil_append]
  rw [words_pre _ _ (by kernel_rfl), words_pre _ _ (by kernel_rfl), words_pre _ _ (by kernel_rfl)]
theorem behind : ∃ X, behindMainWord (wordsSigns Tryz.prog.initOrder.toList) = "cut".toList :: X := by
  obtain ⟨X, hX⟩ := head_words
  refine ⟨X, ?_⟩
  rw [hX]
  have e1 : ("harness".toList == "harness".toList || "harness".toList == "ownmain".toList) = true := by kernel_rfl
  have e2 : isSumSigns "4e7c5f64a61e3e0b3158d06a9505534fe08469d6518e9a1147d28d1ec529932b".toList = true := by kernel_rfl
  unfold behindMainWord
  dsimp only
  rw [e1, e2]; rfl
section
variable {P : Program} {X : List (List Char)}
theorem make_of (hX : behindMainWord (wordsSigns P.initOrder.toList) = "cut".toList :: X) : P.make = some .cut := by
  unfold Program.make
  rw [hX]; rfl
theorem lifts_of (X : List (List Char)) : stripLifts liftWords ("cut".toList :: X) = ([], "cut".toList :: X) := rfl
theorem headLifts_of (hX : behindMainWord (wordsSigns P.initOrder.toList) = "cut".toList :: X) : P.headLifts = [] := by
  unfold Program.headLifts
  rw [hX, lifts_of]; rfl
theorem liftsFinal_of (hX : behindMainWord (wordsSigns P.initOrder.toList) = "cut".toList :: X) : P.liftsFinal = false := by
  unfold Program.liftsFinal
  rw [hX, headLifts_of hX]; rfl
theorem mayEnter_of (hX : behindMainWord (wordsSigns P.initOrder.toList) = "cut".toList :: X) (h1 : P.laysLater = false) (h2 : P.bearsReflect = false) (h3 : P.doorFits [] = true) : P.mayEnter = true := by
  unfold Program.mayEnter
  rw [hX]
  dsimp only
  rw [lifts_of, h1, h2, h3]
  rfl
end
theorem make_is : Tryz.prog.make = some .cut := by
  obtain ⟨X, hX⟩ := behind
  exact make_of hX
theorem liftsFinal_is : Tryz.prog.liftsFinal = false := by
  obtain ⟨X, hX⟩ := behind
  exact liftsFinal_of hX
theorem mayEnter_is : Tryz.prog.mayEnter = true := by
  obtain ⟨X, hX⟩ := behind
  exact mayEnter_of hX (by kernel_rfl) (by kernel_rfl) (by kernel_rfl)
theorem laidOut_is : laidOutB Tryz.prog = true := by kernel_rfl
theorem own_is : ownKnob Tryz.prog.godebug = none := by kernel_rfl
end Go.Proofs.YtfifcnojkjjnkaaGreat
end
section
namespace Go.Proofs.YtfifcnojkjjnkaaGreat
open Go.RowKit
theorem b_szCache (x : GCache) (cs : List Value) (n : Int) (w : World) (hn : 0 ≤ n) (hm : n ≤ 1048576) (hg : x.good) (h : T.rds w x.fs cs) : Calls Tryz.prog 16 #[.agg cs.toArray, .int .i64 n] w fun e w' => ∃ m : Int, e = .returned (.int .i64 m) ∧ -1 ≤ m ∧ m ≤ n ∧ (0 ≤ m → x.small) ∧ Below w.heap.size w w' := by
  obtain ⟨v1, v2, v3, v4, v5, v6, v7, rfl, h1, h2, h3, h4, h5, h6, h7⟩ := GCache.rd_open h
  exact c_szCache x _ _ _ _ _ _ _ n w hn hm hg h1 h2 h3 h4 h5 h6 h7
end Go.Proofs.YtfifcnojkjjnkaaGreat
end
