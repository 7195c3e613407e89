/- Contracts: fractions, both sides. -/
import Derived.Test.YteiflbhcehajkaaGreatDoorQAiExactDeskText
import Derived.Test.YteiflbhcehajkaaGreatDoorQAjExactDeskText
import Derived.Test.YteiflbhcehajkaaGreatDoorQAkExactDeskText
set_option linter.unusedVariables false
set_option linter.unusedSimpArgs false
namespace Go.Proofs.YteiflbhcehajkaaGreatDoor
open Go.RowKit
set_option maxRecDepth 20000 in
theorem c_gcd (a b g : Int) (ha : 0 ≤ a ∧ a < 18446744073709551616) (hb : 0 ≤ b ∧ b < 18446744073709551616) (hg : g = ((Nat.gcd a.natAbs b.natAbs : Nat) : Int)) (w : World) : Calls Tryz.prog 221 #[.int .u64 a, .int .u64 b] w fun e w' => e = .returned (.int .u64 g) ∧ Below w.heap.size w w' := by
  have HA := hide ha; have HBB := hide hb; have HG := hide hg; clear ha hb hg
  go_enter Tryz.func221, Tryz.ntmps221
  go_wp2
  go_loopw [0, 1] (fun u v wr => ∃ p q : Nat, u = .int .u64 (p : Int) ∧ v = .int .u64 (q : Int) ∧ p < 18446744073709551616 ∧ q < 18446744073709551616 ∧ Nat.gcd p q = Nat.gcd a.natAbs b.natAbs ∧ Below w.heap.size w wr) (fun _ v _ => (intOf v).toNat)
  case atStart => exact ⟨a.natAbs, b.natAbs, by have := HA.out; congr 1; omega, by have := HBB.out; congr 1; omega, by have := HA.out; omega, by have := HBB.out; omega, rfl, Below.refl _ _⟩
  case round =>
    obtain ⟨p, q, rfl, rfl, hp, hq, hg, hbw⟩ := hrel
    have HB := hide hbw; have HQ := hide hg; clear hbw hg
    by_cases h0 : q = 0
    · subst h0
      have HP := hide (show (p : Int) = g by rw [HG.out, ← HQ.out, Nat.gcd_zero_right])
      go_wp2
      go_ret
      exact ⟨ret_int HP.out, HB.out⟩
    · have h0i : ¬ (q : Int) = 0 := by omega
      have h0p : (0 : Int) < (q : Int) := by omega
      have HM := hide (show ((p : Int) % (q : Int)) = ((p % q : Nat) : Int) by omega)
      have HL := hide (Nat.mod_lt p (show q > 0 by omega))
      have HN := hide (show Nat.gcd q (p % q) = Nat.gcd p q by rw [Nat.gcd_comm, ← Nat.gcd_rec, Nat.gcd_comm])
      go_wp2
      refine wp_region_bel (by kernel_rfl) (by kernel_rfl) ?_
      repeat (first | go_big_quiet_skip | (go_big_quiet_want; go_big_quiet_op; first | go_big_quiet_on | (apply Exists.intro; refine ⟨fun _ => ?_, ?_⟩; (· (fail)); go_big_quiet_on)))
      refine wpQuiet_nil ?_
      rintro w9 ⟨uu, rfl⟩
      have hb9 := bel_below wr uu
      generalize bel wr uu = w9 at *
      have HB9 := hide (bthen HB.out HB.out.size hb9); clear hb9
      go_wp2
      go_roundw
      case rel => exact ⟨q, p % q, rfl, by rw [HM.out], hq, Nat.lt_trans HL.out hq, HN.out.trans HQ.out, HB9.out⟩
      case measure => have h1 := HL.out; have h2 := HM.out; simp only [intOf]; omega
set_option maxRecDepth 20000 in
theorem c_l02Gcd (a b g : Int) (ha : 0 ≤ a ∧ a < 18446744073709551616) (hb : 0 ≤ b ∧ b < 18446744073709551616) (hg : g = ((Nat.gcd a.natAbs b.natAbs : Nat) : Int)) (w : World) : Calls Tryz.prog 189 #[.int .u64 a, .int .u64 b] w fun e w' => e = .returned (.int .u64 g) ∧ Below w.heap.size w w' := by
  have HA := hide ha; have HBB := hide hb; have HG := hide hg; clear ha hb hg
  go_enter Tryz.func189, Tryz.ntmps189
  go_wp2
  go_loopw [0, 1] (fun u v wr => ∃ p q : Nat, u = .int .u64 (p : Int) ∧ v = .int .u64 (q : Int) ∧ p < 18446744073709551616 ∧ q < 18446744073709551616 ∧ Nat.gcd p q = Nat.gcd a.natAbs b.natAbs ∧ Below w.heap.size w wr) (fun _ v _ => (intOf v).toNat)
  case atStart => exact ⟨a.natAbs, b.natAbs, by have := HA.out; congr 1; omega, by have := HBB.out; congr 1; omega, by have := HA.out; omega, by have := HBB.out; omega, rfl, Below.refl _ _⟩
  case round =>
    obtain ⟨p, q, rfl, rfl, hp, hq, hg, hbw⟩ := hrel
    have HB := hide hbw; have HQ := hide hg; clear hbw hg
    by_cases h0 : q = 0
    · subst h0
      have HP := hide (show (p : Int) = g by rw [HG.out, ← HQ.out, Nat.gcd_zero_right])
      go_wp2
      go_ret
      exact ⟨ret_int HP.out, HB.out⟩
    · have h0i : ¬ (q : Int) = 0 := by omega
      have h0p : (0 : Int) < (q : Int) := by omega
      have HM := hide (show ((p : Int) % (q : Int)) = ((p % q : Nat) : Int) by omega)
      have HL := hide (Nat.mod_lt p (show q > 0 by omega))
      have HN := hide (show Nat.gcd q (p % q) = Nat.gcd p q by rw [Nat.gcd_comm, ← Nat.gcd_rec, Nat.gcd_comm])
      go_wp2
      go_roundw
      case rel => exact ⟨q, p % q, rfl, by rw [HM.out], hq, Nat.lt_trans HL.out hq, HN.out.trans HQ.out, HB.out⟩
      case measure => have h1 := HL.out; have h2 := HM.out; simp only [intOf]; omega
theorem u64_neg' {n : Int} (h0 : n < 0) (h1 : -18446744073709551616 ≤ n) : IntKind.u64.wrap n = n + 18446744073709551616 := by rw [IntKind.wrap_u64]; omega
theorem c_magnitude (n m : Int) (h : -4611686018427387904 ≤ n ∧ n ≤ 4611686018427387904) (hm : m = (n.natAbs : Int)) (w : World) : Calls Tryz.prog 222 #[.int .i64 n] w fun e w' => e = .returned (.int .u64 m) ∧ w = w' := by
  by_cases h0 : n < 0
  · have e1 : IntKind.u64.wrap n = n + 18446744073709551616 := u64_neg' h0 (by omega)
    have e2 : IntKind.u64.wrap (-(n + 18446744073709551616)) = -n := by rw [IntKind.wrap_u64]; omega
    have HM := hide (show -n = m by omega); clear hm
    go_enter Tryz.func222, Tryz.ntmps222
    go_wp2
    go_ret
    exact ⟨ret_int HM.out, rfl⟩
  · have e1 : IntKind.u64.wrap n = n := IntWalk.u64_in _ (by omega)
    have HM := hide (show n = m by omega); clear hm
    go_enter Tryz.func222, Tryz.ntmps222
    go_wp2
    go_ret
    exact ⟨ret_int HM.out, rfl⟩
theorem c_l02Size (n m : Int) (h : -4611686018427387904 ≤ n ∧ n ≤ 4611686018427387904) (hm : m = (n.natAbs : Int)) (w : World) : Calls Tryz.prog 190 #[.int .i64 n] w fun e w' => e = .returned (.int .u64 m) ∧ w = w' := by
  by_cases h0 : n < 0
  · have e1 : IntKind.u64.wrap n = n + 18446744073709551616 := u64_neg' h0 (by omega)
    have e2 : IntKind.i64.wrap (n + 1) = n + 1 := IntWalk.i64_in _ (by omega)
    have e3 : IntKind.i64.wrap (-(n + 1)) = -(n + 1) := IntWalk.i64_in _ (by omega)
    have e4 : IntKind.u64.wrap (-(n + 1)) = -(n + 1) := IntWalk.u64_in _ (by omega)
    have e5 : IntKind.u64.wrap (-(n + 1) + 1) = -(n + 1) + 1 := IntWalk.u64_in _ (by omega)
    have HM := hide (show -(n + 1) + 1 = m by omega); clear hm
    go_enter Tryz.func190, Tryz.ntmps190
    go_wp2
    go_ret
    exact ⟨ret_int HM.out, rfl⟩
  · have e1 : IntKind.u64.wrap n = n := IntWalk.u64_in _ (by omega)
    have HM := hide (show n = m by omega); clear hm
    go_enter Tryz.func190, Tryz.ntmps190
    go_wp2
    go_ret
    exact ⟨ret_int HM.out, rfl⟩
theorem fracOk_iff {f : GFrac} {g : Int} (hg : g = ((Nat.gcd f.fNum.natAbs f.fDen.natAbs : Nat) : Int)) : fracOk f ↔ inB f.fDen 1 1000000 = true ∧ inB f.fNum (-1000000000) 1000000000 = true ∧ g = 1 := by
  unfold fracOk
  rw [inB_iff, inB_iff]
  omega
set_option maxHeartbeats 2000000 in
set_option maxRecDepth 20000 in
theorem c_isFrac (x : GFrac) (cs : List Value) (w : World) (h : T.rds w x.fs cs) : Calls Tryz.prog 192 #[.agg cs.toArray] w fun e w' => e = .returned (.bool (tf (fracOk x))) ∧ Below w.heap.size w w' := by
  obtain rfl := GFrac.rd_open h
  clear h
  have HB0 := hide (show Below w.heap.size w (w.alloc (.cells #[.int .i64 x.fNum, .int .i64 x.fDen] 64)) from (Below.refl _ _).alloc (Nat.le_refl _) _)
  have HK0 := hide (Bk.born w 64 #[.int .i64 x.fNum, .int .i64 x.fDen])
  obtain ⟨g, hg⟩ : ∃ g : Int, g = ((Nat.gcd x.fNum.natAbs x.fDen.natAbs : Nat) : Int) := ⟨_, rfl⟩
  have HI := hide (fracOk_iff hg)
  have HGE := hide hg; clear hg
  by_cases h1 : inB x.fDen 1 1000000 = true
  rotate_left
  ·
    have a1 : inB x.fDen 1 1000000 = false := by simpa using h1
    have H1 := hide h1; clear h1
    go_enter Tryz.func192, Tryz.ntmps192
    go_wp2
    generalize (w.alloc (.cells #[.int .i64 x.fNum, .int .i64 x.fDen] 64)) = W at *
    have g0 := bel_bk HK0.out
    refine wp_region_bel (by kernel_rfl) (by kernel_rfl) ?_
    repeat (first | go_big_quiet_skip | (go_big_quiet_want; go_big_quiet_op; first | go_big_quiet_on | (apply Exists.intro; refine ⟨fun _ => ?_, ?_⟩; (· (first | (go_at_call 70; exact Calls.quiet_bel_same ((c_within _ _ _ _).mono (fun e w' h => by (first | rw [a1] at h | rw [a2] at h | skip); exact h))))); go_big_quiet_on)))
    refine wpQuiet_nil ?_
    rintro w9 ⟨uu, rfl⟩
    have hb9 := bel_below W uu
    generalize bel W uu = w9 at *
    have HB9 := hide (bthen HB0.out HB0.out.size hb9); clear hb9 g0
    go_wp2
    go_ret
    exact ⟨ret_bool (tf_no (fun h => H1.out (HI.out.1 h).1)).symm, HB9.out⟩
  have b1 := inB_iff.1 h1
  by_cases h2 : inB x.fNum (-1000000000) 1000000000 = true
  rotate_left
  ·
    have a1 := h1
    have a2 : inB x.fNum (-1000000000) 1000000000 = false := by simpa using h2
    have H2 := hide h2; clear h2 h1
    go_enter Tryz.func192, Tryz.ntmps192
    go_wp2
    generalize (w.alloc (.cells #[.int .i64 x.fNum, .int .i64 x.fDen] 64)) = W at *
    have g0 := bel_bk HK0.out
    refine wp_region_bel (by kernel_rfl) (by kernel_rfl) ?_
    repeat (first | go_big_quiet_skip | (go_big_quiet_want; go_big_quiet_op; first | go_big_quiet_on | (apply Exists.intro; refine ⟨fun _ => ?_, ?_⟩; (· (first | (go_at_call 70; exact Calls.quiet_bel_same ((c_within _ _ _ _).mono (fun e w' h => by (first | rw [a1] at h | rw [a2] at h | skip); exact h))))); go_big_quiet_on)))
    refine wpQuiet_nil ?_
    rintro w9 ⟨uu, rfl⟩
    have hb9 := bel_below W uu
    generalize bel W uu = w9 at *
    have HB9 := hide (bthen HB0.out HB0.out.size hb9); clear hb9 g0
    go_wp2
    go_ret
    exact ⟨ret_bool (tf_no (fun h => H2.out (HI.out.1 h).2.1)).symm, HB9.out⟩
  have b2 := inB_iff.1 h2
  have a1 := h1; have a2 := h2; have H1 := hide h1; have H2 := hide h2; clear h1 h2
  obtain ⟨mg, hmg⟩ : ∃ m : Int, m = (x.fNum.natAbs : Int) := ⟨_, rfl⟩
  have hd : IntKind.u64.wrap x.fDen = x.fDen := IntWalk.u64_in _ (by omega)
  have HMG := hide hmg
  have CM := hide (fun W => c_magnitude x.fNum mg (by omega) HMG.out W)
  have CG := hide (fun W => c_gcd mg x.fDen g (by omega) (by omega) (by rw [HGE.out, HMG.out, Int.natAbs_natCast]) W)
  clear hmg b1 b2
  by_cases h3 : g = 1
  ·
    have q3 : (g == 1) = true := beqI_t h3
    have H3 := hide h3; clear h3
    go_enter Tryz.func192, Tryz.ntmps192
    go_wp2
    generalize (w.alloc (.cells #[.int .i64 x.fNum, .int .i64 x.fDen] 64)) = W at *
    have g0 := bel_bk HK0.out
    refine wp_region_bel (by kernel_rfl) (by kernel_rfl) ?_
    repeat (first | go_big_quiet_skip | (go_big_quiet_want; go_big_quiet_op; first | go_big_quiet_on | (apply Exists.intro; refine ⟨fun _ => ?_, ?_⟩; (· (first | (go_at_call 70; exact Calls.quiet_bel_same ((c_within _ _ _ _).mono (fun e w' h => by (first | rw [a1] at h | rw [a2] at h | skip); exact h))) | (go_at_call 222; exact Calls.quiet_bel_same (CM.out _)) | (go_at_call 221; exact Calls.quiet_bel (CG.out _)))); go_big_quiet_on)))
    refine wpQuiet_nil ?_
    rintro w9 ⟨uu, rfl⟩
    have hb9 := bel_below W uu
    generalize bel W uu = w9 at *
    have HB9 := hide (bthen HB0.out HB0.out.size hb9); clear hb9 g0
    go_wp2
    go_ret
    exact ⟨ret_bool (tf_yes (HI.out.2 ⟨H1.out, H2.out, H3.out⟩)).symm, HB9.out⟩
  have q3 : (g == 1) = false := beqI_f h3
  have H3 := hide h3; clear h3
  go_enter Tryz.func192, Tryz.ntmps192
  go_wp2
  generalize (w.alloc (.cells #[.int .i64 x.fNum, .int .i64 x.fDen] 64)) = W at *
  have g0 := bel_bk HK0.out
  refine wp_region_bel (by kernel_rfl) (by kernel_rfl) ?_
  repeat (first | go_big_quiet_skip | (go_big_quiet_want; go_big_quiet_op; first | go_big_quiet_on | (apply Exists.intro; refine ⟨fun _ => ?_, ?_⟩; (· (first | (go_at_call 70; exact Calls.quiet_bel_same ((c_within _ _ _ _).mono (fun e w' h => by (first | rw [a1] at h | rw [a2] at h | skip); exact h))) | (go_at_call 222; exact Calls.quiet_bel_same (CM.out _)) | (go_at_call 221; exact Calls.quiet_bel (CG.out _)))); go_big_quiet_on)))
  refine wpQuiet_nil ?_
  rintro w9 ⟨uu, rfl⟩
  have hb9 := bel_below W uu
  generalize bel W uu = w9 at *
  have HB9 := hide (bthen HB0.out HB0.out.size hb9); clear hb9 g0
  go_wp2
  go_ret
  exact ⟨ret_bool (tf_no (fun h => H3.out (HI.out.1 h).2.2)).symm, HB9.out⟩
set_option maxHeartbeats 2000000 in
set_option maxRecDepth 20000 in
theorem c_l02Ok (x : GFrac) (cs : List Value) (w : World) (h : T.rds w x.fs cs) : Calls Tryz.prog 138 #[.agg cs.toArray] w fun e w' => e = .returned (.bool (tf (fracOk x))) ∧ Below w.heap.size w w' := by
  obtain rfl := GFrac.rd_open h
  clear h
  have HB0 := hide (show Below w.heap.size w (w.alloc (.cells #[.int .i64 x.fNum, .int .i64 x.fDen] 64)) from (Below.refl _ _).alloc (Nat.le_refl _) _)
  have HK0 := hide (Bk.born w 64 #[.int .i64 x.fNum, .int .i64 x.fDen])
  obtain ⟨g, hg⟩ : ∃ g : Int, g = ((Nat.gcd x.fNum.natAbs x.fDen.natAbs : Nat) : Int) := ⟨_, rfl⟩
  have HI := hide (fracOk_iff hg)
  have HGE := hide hg; clear hg
  by_cases h1 : inB x.fDen 1 1000000 = true
  rotate_left
  ·
    have a1 : inB x.fDen 1 1000000 = false := by simpa using h1
    have H1 := hide h1; clear h1
    go_enter Tryz.func138, Tryz.ntmps138
    go_wp2
    generalize (w.alloc (.cells #[.int .i64 x.fNum, .int .i64 x.fDen] 64)) = W at *
    have g0 := bel_bk HK0.out
    refine wp_region_bel (by kernel_rfl) (by kernel_rfl) ?_
    repeat (first | go_big_quiet_skip | (go_big_quiet_want; go_big_quiet_op; first | go_big_quiet_on | (apply Exists.intro; refine ⟨fun _ => ?_, ?_⟩; (· (first | (go_at_call 56; exact Calls.quiet_bel_same ((c_l00In _ _ _ _).mono (fun e w' h => by (first | rw [a1] at h | rw [a2] at h | skip); exact h))))); go_big_quiet_on)))
    refine wpQuiet_nil ?_
    rintro w9 ⟨uu, rfl⟩
    have hb9 := bel_below W uu
    generalize bel W uu = w9 at *
    have HB9 := hide (bthen HB0.out HB0.out.size hb9); clear hb9 g0
    go_wp2
    go_ret
    exact ⟨ret_bool (tf_no (fun h => H1.out (HI.out.1 h).1)).symm, HB9.out⟩
  have b1 := inB_iff.1 h1
  by_cases h2 : inB x.fNum (-1000000000) 1000000000 = true
  rotate_left
  ·
    have a1 := h1
    have a2 : inB x.fNum (-1000000000) 1000000000 = false := by simpa using h2
    have H2 := hide h2; clear h2 h1
    go_enter Tryz.func138, Tryz.ntmps138
    go_wp2
    generalize (w.alloc (.cells #[.int .i64 x.fNum, .int .i64 x.fDen] 64)) = W at *
    have g0 := bel_bk HK0.out
    refine wp_region_bel (by kernel_rfl) (by kernel_rfl) ?_
    repeat (first | go_big_quiet_skip | (go_big_quiet_want; go_big_quiet_op; first | go_big_quiet_on | (apply Exists.intro; refine ⟨fun _ => ?_, ?_⟩; (· (first | (go_at_call 56; exact Calls.quiet_bel_same ((c_l00In _ _ _ _).mono (fun e w' h => by (first | rw [a1] at h | rw [a2] at h | skip); exact h))))); go_big_quiet_on)))
    refine wpQuiet_nil ?_
    rintro w9 ⟨uu, rfl⟩
    have hb9 := bel_below W uu
    generalize bel W uu = w9 at *
    have HB9 := hide (bthen HB0.out HB0.out.size hb9); clear hb9 g0
    go_wp2
    go_ret
    exact ⟨ret_bool (tf_no (fun h => H2.out (HI.out.1 h).2.1)).symm, HB9.out⟩
  have b2 := inB_iff.1 h2
  have a1 := h1; have a2 := h2; have H1 := hide h1; have H2 := hide h2; clear h1 h2
  obtain ⟨mg, hmg⟩ : ∃ m : Int, m = (x.fNum.natAbs : Int) := ⟨_, rfl⟩
  have hd : IntKind.u64.wrap x.fDen = x.fDen := IntWalk.u64_in _ (by omega)
  have HMG := hide hmg
  have CM := hide (fun W => c_l02Size x.fNum mg (by omega) HMG.out W)
  have CG := hide (fun W => c_l02Gcd mg x.fDen g (by omega) (by omega) (by rw [HGE.out, HMG.out, Int.natAbs_natCast]) W)
  clear hmg b1 b2
  by_cases h3 : g = 1
  ·
    have q3 : (g == 1) = true := beqI_t h3
    have H3 := hide h3; clear h3
    go_enter Tryz.func138, Tryz.ntmps138
    go_wp2
    generalize (w.alloc (.cells #[.int .i64 x.fNum, .int .i64 x.fDen] 64)) = W at *
    have g0 := bel_bk HK0.out
    refine wp_region_bel (by kernel_rfl) (by kernel_rfl) ?_
    repeat (first | go_big_quiet_skip | (go_big_quiet_want; go_big_quiet_op; first | go_big_quiet_on | (apply Exists.intro; refine ⟨fun _ => ?_, ?_⟩; (· (first | (go_at_call 56; exact Calls.quiet_bel_same ((c_l00In _ _ _ _).mono (fun e w' h => by (first | rw [a1] at h | rw [a2] at h | skip); exact h))) | (go_at_call 190; exact Calls.quiet_bel_same (CM.out _)) | (go_at_call 189; exact Calls.quiet_bel (CG.out _)))); go_big_quiet_on)))
    refine wpQuiet_nil ?_
    rintro w9 ⟨uu, rfl⟩
    have hb9 := bel_below W uu
    generalize bel W uu = w9 at *
    have HB9 := hide (bthen HB0.out HB0.out.size hb9); clear hb9 g0
    go_wp2
    go_ret
    exact ⟨ret_bool (tf_yes (HI.out.2 ⟨H1.out, H2.out, H3.out⟩)).symm, HB9.out⟩
  have q3 : (g == 1) = false := beqI_f h3
  have H3 := hide h3; clear h3
  go_enter Tryz.func138, Tryz.ntmps138
  go_wp2
  generalize (w.alloc (.cells #[.int .i64 x.fNum, .int .i64 x.fDen] 64)) = W at *
  have g0 := bel_bk HK0.out
  refine wp_region_bel (by kernel_rfl) (by kernel_rfl) ?_
  repeat (first | go_big_quiet_skip | (go_big_quiet_want; go_big_quiet_op; first | go_big_quiet_on | (apply Exists.intro; refine ⟨fun _ => ?_, ?_⟩; (· (first | (go_at_call 56; exact Calls.quiet_bel_same ((c_l00In _ _ _ _).mono (fun e w' h => by (first | rw [a1] at h | rw [a2] at h | skip); exact h))) | (go_at_call 190; exact Calls.quiet_bel_same (CM.out _)) | (go_at_call 189; exact Calls.quiet_bel (CG.out _)))); go_big_quiet_on)))
  refine wpQuiet_nil ?_
  rintro w9 ⟨uu, rfl⟩
  have hb9 := bel_below W uu
  generalize bel W uu = w9 at *
  have HB9 := hide (bthen HB0.out HB0.out.size hb9); clear hb9 g0
  go_wp2
  go_ret
  exact ⟨ret_bool (tf_no (fun h => H3.out (HI.out.1 h).2.2)).symm, HB9.out⟩
end Go.Proofs.YteiflbhcehajkaaGreatDoor
