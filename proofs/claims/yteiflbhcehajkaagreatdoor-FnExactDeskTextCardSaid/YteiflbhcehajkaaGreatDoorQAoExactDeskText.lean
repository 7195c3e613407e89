/- Contracts: order of fractions, beats, notes, both sides. -/
import Derived.Test.YteiflbhcehajkaaGreatDoorQAnExactDeskText
set_option linter.unusedVariables false
set_option linter.unusedSimpArgs false
namespace Go.Proofs.YteiflbhcehajkaaGreatDoor
open Go.RowKit
set_option maxRecDepth 20000 in
theorem c_compare (x y : GFrac) (w : World) (hx : fracOk x) (hy : fracOk y) : Calls Tryz.prog 146 #[.agg #[.int .i64 x.fNum, .int .i64 x.fDen], .agg #[.int .i64 y.fNum, .int .i64 y.fDen]] w fun e w' => e = .returned (.int .i64 (cmpFr x y)) ∧ Below w.heap.size w w' := by
  obtain ⟨⟨x1, x2⟩, ⟨x3, x4⟩, -⟩ := hx
  obtain ⟨⟨y1, y2⟩, ⟨y3, y4⟩, -⟩ := hy
  have pA := prod_bnd (A := 1000000000) (B := 1000000) ⟨x3, x4⟩ ⟨by omega, y2⟩
  have pB := prod_bnd (A := 1000000000) (B := 1000000) ⟨y3, y4⟩ ⟨by omega, x2⟩
  have e0 : IntKind.i64.wrap (x.fNum * y.fDen) = x.fNum * y.fDen := IntWalk.i64_in _ (by omega)
  have e1 : IntKind.i64.wrap (y.fNum * x.fDen) = y.fNum * x.fDen := IntWalk.i64_in _ (by omega)
  have e2 : IntKind.i64.wrap (x.fNum * y.fDen - y.fNum * x.fDen) = x.fNum * y.fDen - y.fNum * x.fDen := IntWalk.i64_in _ (by omega)
  have HB2 := hide (show Below w.heap.size w ((w.alloc (.cells #[.int .i64 x.fNum, .int .i64 x.fDen] 64)).alloc (.cells #[.int .i64 y.fNum, .int .i64 y.fDen] 64)) from (((Below.refl w.heap.size w).alloc (Nat.le_refl _) (.cells #[.int .i64 x.fNum, .int .i64 x.fDen] 64)).alloc (by simp) (.cells #[.int .i64 y.fNum, .int .i64 y.fDen] 64)))
  clear x1 x2 x3 x4 y1 y2 y3 y4 pA pB
  by_cases c1 : x.fNum * y.fDen - y.fNum * x.fDen < 0
  ·
    have HC := hide (show -1 = cmpFr x y by unfold cmpFr sgn; rw [if_pos c1])
    have d0 : x.fNum * y.fDen < y.fNum * x.fDen := by omega
    go_enter Tryz.func146, Tryz.ntmps146
    go_wp2
    go_ret
    exact ⟨ret_int HC.out, HB2.out⟩
  by_cases c2 : 0 < x.fNum * y.fDen - y.fNum * x.fDen
  ·
    have HC := hide (show 1 = cmpFr x y by unfold cmpFr sgn; rw [if_neg c1, if_pos c2])
    have d0 : ¬ x.fNum * y.fDen < y.fNum * x.fDen := by omega
    have d1 : y.fNum * x.fDen < x.fNum * y.fDen := by omega
    go_enter Tryz.func146, Tryz.ntmps146
    go_wp2
    go_ret
    exact ⟨ret_int HC.out, HB2.out⟩
  have HC := hide (show 0 = cmpFr x y by unfold cmpFr sgn; rw [if_neg c1, if_neg c2])
  have d0 : ¬ x.fNum * y.fDen < y.fNum * x.fDen := by omega
  have d1 : ¬ y.fNum * x.fDen < x.fNum * y.fDen := by omega
  go_enter Tryz.func146, Tryz.ntmps146
  go_wp2
  go_ret
  exact ⟨ret_int HC.out, HB2.out⟩
set_option maxRecDepth 20000 in
theorem c_l02Compare (x y : GFrac) (w : World) (hx : fracOk x) (hy : fracOk y) : Calls Tryz.prog 139 #[.agg #[.int .i64 x.fNum, .int .i64 x.fDen], .agg #[.int .i64 y.fNum, .int .i64 y.fDen]] w fun e w' => e = .returned (.int .i64 (cmpFr x y)) ∧ Below w.heap.size w w' := by
  obtain ⟨⟨x1, x2⟩, ⟨x3, x4⟩, -⟩ := hx
  obtain ⟨⟨y1, y2⟩, ⟨y3, y4⟩, -⟩ := hy
  have pA := prod_bnd (A := 1000000000) (B := 1000000) ⟨x3, x4⟩ ⟨by omega, y2⟩
  have pB := prod_bnd (A := 1000000000) (B := 1000000) ⟨y3, y4⟩ ⟨by omega, x2⟩
  have e0 : IntKind.i64.wrap (x.fNum * y.fDen) = x.fNum * y.fDen := IntWalk.i64_in _ (by omega)
  have e1 : IntKind.i64.wrap (y.fNum * x.fDen) = y.fNum * x.fDen := IntWalk.i64_in _ (by omega)
  have e2 : IntKind.i64.wrap (x.fNum * y.fDen - y.fNum * x.fDen) = x.fNum * y.fDen - y.fNum * x.fDen := IntWalk.i64_in _ (by omega)
  have HB2 := hide (show Below w.heap.size w ((w.alloc (.cells #[.int .i64 x.fNum, .int .i64 x.fDen] 64)).alloc (.cells #[.int .i64 y.fNum, .int .i64 y.fDen] 64)) from (((Below.refl w.heap.size w).alloc (Nat.le_refl _) (.cells #[.int .i64 x.fNum, .int .i64 x.fDen] 64)).alloc (by simp) (.cells #[.int .i64 y.fNum, .int .i64 y.fDen] 64)))
  clear x1 x2 x3 x4 y1 y2 y3 y4 pA pB
  by_cases c1 : x.fNum * y.fDen - y.fNum * x.fDen < 0
  ·
    have HC := hide (show -1 = cmpFr x y by unfold cmpFr sgn; rw [if_pos c1])
    have d0 : x.fNum * y.fDen < y.fNum * x.fDen := by omega
    go_enter Tryz.func139, Tryz.ntmps139
    go_wp2
    go_ret
    exact ⟨ret_int HC.out, HB2.out⟩
  by_cases c2 : 0 < x.fNum * y.fDen - y.fNum * x.fDen
  ·
    have HC := hide (show 1 = cmpFr x y by unfold cmpFr sgn; rw [if_neg c1, if_pos c2])
    have d0 : ¬ x.fNum * y.fDen < y.fNum * x.fDen := by omega
    have d1 : y.fNum * x.fDen < x.fNum * y.fDen := by omega
    go_enter Tryz.func139, Tryz.ntmps139
    go_wp2
    go_ret
    exact ⟨ret_int HC.out, HB2.out⟩
  have HC := hide (show 0 = cmpFr x y by unfold cmpFr sgn; rw [if_neg c1, if_neg c2])
  have d0 : ¬ x.fNum * y.fDen < y.fNum * x.fDen := by omega
  have d1 : ¬ y.fNum * x.fDen < x.fNum * y.fDen := by omega
  go_enter Tryz.func139, Tryz.ntmps139
  go_wp2
  go_ret
  exact ⟨ret_int HC.out, HB2.out⟩
theorem c_whole (n : Int) (w : World) : Calls Tryz.prog 149 #[.int .i64 n] w fun e w' => e = .returned (.agg #[.int .i64 n, .int .i64 1]) ∧ Below w.heap.size w w' := by
  have HK := hide (Bk.born w 64 #[.int .i64 0, .int .i64 0])
  have kc := HK.out.cell; have kf := HK.out.free; have kl := HK.out.lt
  have hb : Below w.heap.size w (w.alloc (.cells #[.int .i64 0, .int .i64 0] 64)) := (Below.refl _ _).alloc (Nat.le_refl _) _
  go_enter Tryz.func149, Tryz.ntmps149
  go_wp2
  refine bodyPost_ret (v := .agg #[.int .i64 n, .int .i64 1]) (by simp [results, Tryz.results149, go_sem, kc, kf, kl]) rfl ?_
  exact ⟨rfl, (by repeat (first | with_reducible exact Below.refl _ _ | with_reducible assumption | with_reducible refine Below.setCell ?_ (by first | omega | (simp; done) | (simp; omega)) _ | with_reducible refine Below.alloc ?_ (by first | omega | (simp; done) | (simp; omega)) _ | with_reducible refine Below.drew ?_ | with_reducible refine below_drewN ?_ _ | exact Below.refl _ _ | assumption | refine Below.drew ?_ | refine below_drewN ?_ _ | refine Below.alloc ?_ (by first | omega | (simp; done) | (simp; omega)) _ | refine Below.setCell ?_ (by first | omega | (simp; done) | (simp; omega)) _))⟩
theorem c_l15One (w : World) : Calls Tryz.prog 140 #[] w fun e w' => e = .returned (.agg #[.int .i64 1, .int .i64 1]) ∧ Below w.heap.size w w' := by
  have HK := hide (Bk.born w 64 #[.int .i64 0, .int .i64 0])
  have kc := HK.out.cell; have kf := HK.out.free; have kl := HK.out.lt
  have hb : Below w.heap.size w (w.alloc (.cells #[.int .i64 0, .int .i64 0] 64)) := (Below.refl _ _).alloc (Nat.le_refl _) _
  go_enter Tryz.func140, Tryz.ntmps140
  go_wp2
  refine bodyPost_ret (v := .agg #[.int .i64 1, .int .i64 1]) (by simp [results, Tryz.results140, go_sem, kc, kf, kl]) rfl ?_
  exact ⟨rfl, (by repeat (first | with_reducible exact Below.refl _ _ | with_reducible assumption | with_reducible refine Below.setCell ?_ (by first | omega | (simp; done) | (simp; omega)) _ | with_reducible refine Below.alloc ?_ (by first | omega | (simp; done) | (simp; omega)) _ | with_reducible refine Below.drew ?_ | with_reducible refine below_drewN ?_ _ | exact Below.refl _ _ | assumption | refine Below.drew ?_ | refine below_drewN ?_ _ | refine Below.alloc ?_ (by first | omega | (simp; done) | (simp; omega)) _ | refine Below.setCell ?_ (by first | omega | (simp; done) | (simp; omega)) _))⟩
def beatN (x : GFrac) : Prop := 0 ≤ x.fNum ∧ x.fNum ≤ 1000 * x.fDen
theorem fracOk_1000 : fracOk ⟨1000, 1⟩ := by decide
theorem fracOk_1 : fracOk ⟨1, 1⟩ := by decide
theorem beat_cmp {x : GFrac} : cmpFr x ⟨1000, 1⟩ ≤ 0 ↔ x.fNum ≤ 1000 * x.fDen := by unfold cmpFr; rw [sgn_le]; dsimp only; omega
set_option maxHeartbeats 2000000 in
set_option maxRecDepth 20000 in
theorem c_isBeat (x : GFrac) (cs : List Value) (w : World) (h : T.rds w x.fs cs) : Calls Tryz.prog 145 #[.agg cs.toArray] w fun e w' => e = .returned (.bool (tf (beatOk x))) ∧ Below w.heap.size w w' := by
  obtain rfl := GFrac.rd_open h
  clear h
  have HB0 := hide (show Below w.heap.size w (w.alloc (.cells #[.int .i64 x.fNum, .int .i64 x.fDen] 64)) from (Below.refl _ _).alloc (Nat.le_refl _) _)
  have HK0 := hide (Bk.born w 64 #[.int .i64 x.fNum, .int .i64 x.fDen])
  by_cases h1 : fracOk x
  rotate_left
  ·
    have q1 := tf_no h1; have H1 := hide h1; clear h1
    go_enter Tryz.func145, Tryz.ntmps145
    go_wp2
    generalize (w.alloc (.cells #[.int .i64 x.fNum, .int .i64 x.fDen] 64)) = W at *
    have g0 := bel_bk HK0.out
    refine wp_region_bel (by kernel_rfl) (by kernel_rfl) ?_
    repeat (first | go_big_quiet_skip | (go_big_quiet_want; go_big_quiet_op; first | go_big_quiet_on | (apply Exists.intro; refine ⟨fun _ => ?_, ?_⟩; (· (first | (go_at_call 192; exact Calls.quiet_bel ((c_isFrac x _ _ GFrac.rd_mk).mono (fun e w' h => by (first | rw [q1] at h | skip); exact h))))); go_big_quiet_on)))
    refine wpQuiet_nil ?_
    rintro w9 ⟨uu, rfl⟩
    have hb9 := bel_below W uu
    generalize bel W uu = w9 at *
    have HB9 := hide (bthen HB0.out HB0.out.size hb9); clear hb9 g0
    go_wp2
    go_ret
    exact ⟨ret_bool (by rw [tf_no (fun h => H1.out h.1)]; all_goals (first | rfl | (have k3 := H3.out; simp; omega))), HB9.out⟩
  have q1 := tf_yes h1; have H1 := hide h1; clear h1
  by_cases h2 : 0 ≤ x.fNum
  rotate_left
  ·
    have H2 := hide h2
    have q2 : decide (0 ≤ x.fNum) = false := decide_eq_false h2
    go_enter Tryz.func145, Tryz.ntmps145
    go_wp2
    generalize (w.alloc (.cells #[.int .i64 x.fNum, .int .i64 x.fDen] 64)) = W at *
    have g0 := bel_bk HK0.out
    refine wp_region_bel (by kernel_rfl) (by kernel_rfl) ?_
    repeat (first | go_big_quiet_skip | (go_big_quiet_want; go_big_quiet_op; first | go_big_quiet_on | (apply Exists.intro; refine ⟨fun _ => ?_, ?_⟩; (· (first | (go_at_call 192; exact Calls.quiet_bel ((c_isFrac x _ _ GFrac.rd_mk).mono (fun e w' h => by (first | rw [q1] at h | skip); exact h))))); go_big_quiet_on)))
    refine wpQuiet_nil ?_
    rintro w9 ⟨uu, rfl⟩
    have hb9 := bel_below W uu
    generalize bel W uu = w9 at *
    have HB9 := hide (bthen HB0.out HB0.out.size hb9); clear hb9 g0
    go_wp2
    go_ret
    exact ⟨ret_bool (by rw [tf_no (fun h : beatOk x => by have k1 := H2.out; have k2 := h.2.1; omega)]; all_goals (first | rfl | (have k3 := H3.out; simp; omega))), HB9.out⟩
  have q2 : decide (0 ≤ x.fNum) = true := decide_eq_true h2
  obtain ⟨cc, hcc⟩ : ∃ cc, cmpFr x ⟨1000, 1⟩ = cc := ⟨_, rfl⟩
  have HI := hide (@beat_cmp x); rw [hcc] at HI
  have CP := hide (fun W => (by have := c_compare x ⟨1000, 1⟩ W H1.out fracOk_1000; rw [hcc] at this; exact this : Calls Tryz.prog 146 #[.agg #[.int .i64 x.fNum, .int .i64 x.fDen], .agg #[.int .i64 1000, .int .i64 1]] W fun e w' => e = .returned (.int .i64 cc) ∧ Below W.heap.size W w'))
  clear hcc
  by_cases h3 : cc ≤ 0
  rotate_left
  ·
    have H3 := hide h3
    go_enter Tryz.func145, Tryz.ntmps145
    go_wp2
    generalize (w.alloc (.cells #[.int .i64 x.fNum, .int .i64 x.fDen] 64)) = W at *
    have g0 := bel_bk HK0.out
    refine wp_region_bel (by kernel_rfl) (by kernel_rfl) ?_
    repeat (first | go_big_quiet_skip | (go_big_quiet_want; go_big_quiet_op; first | go_big_quiet_on | (apply Exists.intro; refine ⟨fun _ => ?_, ?_⟩; (· (first | (go_at_call 192; exact Calls.quiet_bel ((c_isFrac x _ _ GFrac.rd_mk).mono (fun e w' h => by (first | rw [q1] at h | skip); exact h))) | (go_at_call 149; exact Calls.quiet_bel (c_whole 1000 _)) | (go_at_call 146; exact Calls.quiet_bel (CP.out _)))); go_big_quiet_on)))
    refine wpQuiet_nil ?_
    rintro w9 ⟨uu, rfl⟩
    have hb9 := bel_below W uu
    generalize bel W uu = w9 at *
    have HB9 := hide (bthen HB0.out HB0.out.size hb9); clear hb9 g0
    go_wp2
    go_ret
    exact ⟨ret_bool (by rw [tf_no (fun h : beatOk x => by have k1 := H3.out; have k2 := HI.out.2 h.2.2; omega)]; all_goals (first | rfl | (have k3 := H3.out; simp; omega))), HB9.out⟩
  have H2 := hide h2; have H3 := hide h3
  go_enter Tryz.func145, Tryz.ntmps145
  go_wp2
  generalize (w.alloc (.cells #[.int .i64 x.fNum, .int .i64 x.fDen] 64)) = W at *
  have g0 := bel_bk HK0.out
  refine wp_region_bel (by kernel_rfl) (by kernel_rfl) ?_
  repeat (first | go_big_quiet_skip | (go_big_quiet_want; go_big_quiet_op; first | go_big_quiet_on | (apply Exists.intro; refine ⟨fun _ => ?_, ?_⟩; (· (first | (go_at_call 192; exact Calls.quiet_bel ((c_isFrac x _ _ GFrac.rd_mk).mono (fun e w' h => by (first | rw [q1] at h | skip); exact h))) | (go_at_call 149; exact Calls.quiet_bel (c_whole 1000 _)) | (go_at_call 146; exact Calls.quiet_bel (CP.out _)))); go_big_quiet_on)))
  refine wpQuiet_nil ?_
  rintro w9 ⟨uu, rfl⟩
  have hb9 := bel_below W uu
  generalize bel W uu = w9 at *
  have HB9 := hide (bthen HB0.out HB0.out.size hb9); clear hb9 g0
  go_wp2
  go_ret
  exact ⟨ret_bool (by rw [tf_yes ⟨H1.out, H2.out, HI.out.1 H3.out⟩]; all_goals (first | rfl | (have k3 := H3.out; simp; omega))), HB9.out⟩
set_option maxHeartbeats 2000000 in
set_option maxRecDepth 20000 in
theorem c_l17Beat (x : GFrac) (cs : List Value) (w : World) (hx : fracOk x) (h : T.rds w x.fs cs) : Calls Tryz.prog 186 #[.agg cs.toArray] w fun e w' => e = .returned (.bool (tf (beatN x))) ∧ Below w.heap.size w w' := by
  obtain rfl := GFrac.rd_open h
  clear h
  have HB0 := hide (show Below w.heap.size w (w.alloc (.cells #[.int .i64 x.fNum, .int .i64 x.fDen] 64)) from (Below.refl _ _).alloc (Nat.le_refl _) _)
  have HK0 := hide (Bk.born w 64 #[.int .i64 x.fNum, .int .i64 x.fDen])
  obtain ⟨⟨x1, x2⟩, ⟨x3, x4⟩, -⟩ := hx
  have e0 : IntKind.i64.wrap (1000 * x.fDen) = 1000 * x.fDen := IntWalk.i64_in _ (by omega)
  clear x1 x2 x3 x4
  by_cases h1 : 0 ≤ x.fNum
  rotate_left
  ·
    go_enter Tryz.func186, Tryz.ntmps186
    go_wp2
    go_ret
    exact ⟨ret_bool (by rw [tf_no (fun h : beatN x => by have k2 := h.1; omega)]; all_goals (first | rfl | (simp; omega))), HB0.out⟩
  by_cases h2 : x.fNum ≤ 1000 * x.fDen
  rotate_left
  ·
    go_enter Tryz.func186, Tryz.ntmps186
    go_wp2
    go_ret
    exact ⟨ret_bool (by rw [tf_no (fun h : beatN x => by have k2 := h.2; omega)]; all_goals (first | rfl | (simp; omega))), HB0.out⟩
  go_enter Tryz.func186, Tryz.ntmps186
  go_wp2
  go_ret
  exact ⟨ret_bool (by rw [tf_yes ⟨h1, h2⟩]; all_goals (first | rfl | (simp; omega))), HB0.out⟩
theorem c_isKey (n : Int) (w : World) : Calls Tryz.prog 220 #[.int .i64 n] w fun e w' => e = .returned (.bool (inB n 0 127)) ∧ w = w' := by
  go_enter Tryz.func220, Tryz.ntmps220
  go_wp2_with (go_at_call 70; refine (c_within _ _ _ _).mono ?_; rintro e w' ⟨rfl, rfl⟩)
  go_ret
  exact ⟨rfl, rfl⟩
end Go.Proofs.YteiflbhcehajkaaGreatDoor
