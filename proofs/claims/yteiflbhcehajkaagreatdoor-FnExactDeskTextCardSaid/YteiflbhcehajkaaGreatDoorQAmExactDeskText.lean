/- Contracts: MakeFrac, both sides. -/
import Derived.Test.YteiflbhcehajkaaGreatDoorQAlExactDeskText
set_option linter.unusedVariables false
set_option linter.unusedSimpArgs false
namespace Go.Proofs.YteiflbhcehajkaaGreatDoor
open Go.RowKit
theorem mkFr_0 (a : Int) : mkFr a 0 = (zeroFr, 1) := by unfold mkFr; rw [if_pos rfl]
theorem mkFr_big {a b : Int} {p q : Nat} (h0 : b ≠ 0) (hp : p = a.natAbs / Nat.gcd a.natAbs b.natAbs) (hq : q = b.natAbs / Nat.gcd a.natAbs b.natAbs) (h : 1000000000 < p ∨ 1000000 < q) : mkFr a b = (zeroFr, 2) := by
  subst hp hq
  unfold mkFr; rw [if_neg h0, if_pos h]
theorem mkFr_in {a b : Int} {p q : Nat} (h0 : b ≠ 0) (hp : p = a.natAbs / Nat.gcd a.natAbs b.natAbs) (hq : q = b.natAbs / Nat.gcd a.natAbs b.natAbs) (h : ¬ (1000000000 < p ∨ 1000000 < q)) : mkFr a b = (⟨if decide (a < 0) != decide (b < 0) then -(p : Int) else (p : Int), (q : Int)⟩, 0) := by
  subst hp hq
  unfold mkFr; rw [if_neg h0, if_neg h]
set_option maxHeartbeats 1000000 in
set_option maxRecDepth 20000 in
theorem c_MakeFrac (a b : Int) (w : World) (ha : -4611686018427387904 ≤ a ∧ a ≤ 4611686018427387904) (hb : -4611686018427387904 ≤ b ∧ b ≤ 4611686018427387904) : Calls Tryz.prog 223 #[.int .i64 a, .int .i64 b] w fun e w' => e = .returned (.tuple #[.agg #[.int .i64 (mkFr a b).1.fNum, .int .i64 (mkFr a b).1.fDen], .int .i64 (mkFr a b).2]) ∧ Below w.heap.size w w' := by
  have HB1 := hide (show Below w.heap.size w (w.alloc (.cells #[.int .i64 0, .int .i64 0] 64)) from (Below.refl _ _).alloc (Nat.le_refl _) _)
  have HK1 := hide (Bk.born w 64 #[.int .i64 0, .int .i64 0])
  by_cases h0 : b = 0
  · subst h0
    have HM := hide (mkFr_0 a)
    have hb := HB1.out
    have hk := HK1.out; have kc := hk.cell; have kf := hk.free; have kl := hk.lt
    go_enter Tryz.func223, Tryz.ntmps223
    go_wp2
    refine bodyPost_ret (v := .tuple #[.agg #[.int .i64 0, .int .i64 0], .int .i64 1]) (by simp [results, Tryz.results223, go_sem]) rfl ?_
    rw [HM.out]; exact ⟨rfl, (by repeat (first | with_reducible exact Below.refl _ _ | with_reducible assumption | with_reducible refine Below.setCell ?_ (by first | omega | (simp; done) | (simp; omega)) _ | with_reducible refine Below.alloc ?_ (by first | omega | (simp; done) | (simp; omega)) _ | with_reducible refine Below.drew ?_ | with_reducible refine below_drewN ?_ _ | exact Below.refl _ _ | assumption | refine Below.drew ?_ | refine below_drewN ?_ _ | refine Below.alloc ?_ (by first | omega | (simp; done) | (simp; omega)) _ | refine Below.setCell ?_ (by first | omega | (simp; done) | (simp; omega)) _))⟩
  have hb0 : (b == 0) = false := beqI_f h0
  obtain ⟨m, hm⟩ : ∃ m : Int, m = (a.natAbs : Int) := ⟨_, rfl⟩
  obtain ⟨n, hn⟩ : ∃ n : Int, n = (b.natAbs : Int) := ⟨_, rfl⟩
  obtain ⟨g, hg⟩ : ∃ g : Int, g = ((Nat.gcd a.natAbs b.natAbs : Nat) : Int) := ⟨_, rfl⟩
  obtain ⟨p, hp⟩ : ∃ p : Nat, p = a.natAbs / Nat.gcd a.natAbs b.natAbs := ⟨_, rfl⟩
  obtain ⟨q, hq⟩ : ∃ q : Nat, q = b.natAbs / Nat.gcd a.natAbs b.natAbs := ⟨_, rfl⟩
  have hgp : 0 < Nat.gcd a.natAbs b.natAbs := gcd_pos_right (by omega)
  have HQP := hide (show m / g = (p : Int) by rw [hm, hg, hp]; exact (Int.natCast_ediv _ _).symm)
  have HQQ := hide (show n / g = (q : Int) by rw [hn, hg, hq]; exact (Int.natCast_ediv _ _).symm)
  have hple : p ≤ a.natAbs := by rw [hp]; exact Nat.div_le_self _ _
  have hqle : q ≤ b.natAbs := by rw [hq]; exact Nat.div_le_self _ _
  have HBIG := hide (fun h => mkFr_big h0 hp hq h); have HIN := hide (fun h => mkFr_in h0 hp hq h)
  have CM := hide (fun W => c_magnitude a m ha hm W); have CN := hide (fun W => c_magnitude b n hb hn W)
  have CG := hide (fun W => c_gcd m n g (by omega) (by omega) (by rw [hg, hm, hn, Int.natAbs_natCast, Int.natAbs_natCast]) W)
  have hg1 : 1 ≤ g := by omega
  have hm0 : 0 ≤ m ∧ m ≤ 4611686018427387904 := by omega
  have hn0 : 0 ≤ n ∧ n ≤ 4611686018427387904 := by omega
  have hp0 : (p : Int) ≤ 4611686018427387904 := by omega
  have hq0 : (q : Int) ≤ 4611686018427387904 := by omega
  have hgz : ¬ g = 0 := by omega
  clear hm hn hg hp hq hgp hple hqle ha hb h0
  have eq1 : IntKind.u64.wrap (m / g) = (p : Int) := by rw [HQP.out]; exact IntWalk.u64_in _ (by omega)
  have eq2 : IntKind.u64.wrap (n / g) = (q : Int) := by rw [HQQ.out]; exact IntWalk.u64_in _ (by omega)
  have hqp := HQP.out; have hqq := HQQ.out
  have eq3 : IntKind.i64.wrap (p : Int) = (p : Int) := IntWalk.i64_in _ (by omega)
  have eq4 : IntKind.i64.wrap (q : Int) = (q : Int) := IntWalk.i64_in _ (by omega)
  have eq5 : IntKind.i64.wrap (-(p : Int)) = -(p : Int) := IntWalk.i64_in _ (by omega)
  go_enter Tryz.func223, Tryz.ntmps223
  go_wp2_with (first | (go_at_call_of 222 (Value.int IntKind.i64 a); refine (CM.out _).mono ?_; rintro e w' ⟨rfl, rfl⟩) | (go_at_call_of 222 (Value.int IntKind.i64 b); refine (CN.out _).mono ?_; rintro e w' ⟨rfl, rfl⟩) | (go_at_call 221; refine (CG.out _).mono ?_; rintro e w2 ⟨rfl, hb2⟩))
  have HB2 := hide (bthen HB1.out HB1.out.size hb2); have HK2 := hide (HK1.out.below hb2 HK1.out.lt); clear hb2 HB1 HK1 CM CN CG
  refine wp_region_bel (by kernel_rfl) (by kernel_rfl) ?_
  repeat (first | go_big_quiet_skip | (go_big_quiet_want; go_big_quiet_op; first | go_big_quiet_on | (apply Exists.intro; refine ⟨fun _ => ?_, ?_⟩; (· (fail)); go_big_quiet_on)))
  refine wpQuiet_nil ?_
  rintro w9 ⟨uu, rfl⟩
  have hb9 := bel_below w2 uu
  generalize bel w2 uu = w9 at *
  have HB3 := hide (bthen HB2.out HB2.out.size hb9); have HK3 := hide (HK2.out.below hb9 HK2.out.lt); clear hb9 HB2 HK2
  rw [hqp, hqq]
  have kc := HK3.out.cell; have kf := HK3.out.free; have kl := HK3.out.lt
  by_cases c1 : 1000000000 < p
  · have HM := hide (HBIG.out (.inl c1)); have d1 : (1000000000 : Int) < (p : Int) := by omega
    clear c1
    go_wp2
    refine bodyPost_ret (v := .tuple #[.agg #[.int .i64 0, .int .i64 0], .int .i64 2]) (by simp [results, Tryz.results223, go_sem, kc, kf, kl]) rfl ?_
    rw [HM.out]; have hb := HB3.out; exact ⟨rfl, (by repeat (first | with_reducible exact Below.refl _ _ | with_reducible assumption | with_reducible refine Below.setCell ?_ (by first | omega | (simp; done) | (simp; omega)) _ | with_reducible refine Below.alloc ?_ (by first | omega | (simp; done) | (simp; omega)) _ | with_reducible refine Below.drew ?_ | with_reducible refine below_drewN ?_ _ | exact Below.refl _ _ | assumption | refine Below.drew ?_ | refine below_drewN ?_ _ | refine Below.alloc ?_ (by first | omega | (simp; done) | (simp; omega)) _ | refine Below.setCell ?_ (by first | omega | (simp; done) | (simp; omega)) _))⟩
  have d1 : ¬ (1000000000 : Int) < (p : Int) := by omega
  by_cases c2 : 1000000 < q
  · have HM := hide (HBIG.out (.inr c2)); have d2 : (1000000 : Int) < (q : Int) := by omega
    clear c1 c2
    go_wp2
    refine bodyPost_ret (v := .tuple #[.agg #[.int .i64 0, .int .i64 0], .int .i64 2]) (by simp [results, Tryz.results223, go_sem, kc, kf, kl]) rfl ?_
    rw [HM.out]; have hb := HB3.out; exact ⟨rfl, (by repeat (first | with_reducible exact Below.refl _ _ | with_reducible assumption | with_reducible refine Below.setCell ?_ (by first | omega | (simp; done) | (simp; omega)) _ | with_reducible refine Below.alloc ?_ (by first | omega | (simp; done) | (simp; omega)) _ | with_reducible refine Below.drew ?_ | with_reducible refine below_drewN ?_ _ | exact Below.refl _ _ | assumption | refine Below.drew ?_ | refine below_drewN ?_ _ | refine Below.alloc ?_ (by first | omega | (simp; done) | (simp; omega)) _ | refine Below.setCell ?_ (by first | omega | (simp; done) | (simp; omega)) _))⟩
  have d2 : ¬ (1000000 : Int) < (q : Int) := by omega
  have HM := hide (HIN.out (fun h => h.elim c1 c2)); clear c1 c2
  by_cases s1 : a < 0
  · skip
    by_cases s2 : b < 0
    · skip
      have HMM := hide (show mkFr a b = (⟨(p : Int), (q : Int)⟩, 0) by rw [HM.out]; simp [s1, s2])
      have t1 : (decide (a < 0) != decide (b < 0)) = false := by simp [s1, s2]
      have t2 : decide (a < 0) = true := by simp [s1]
      have t3 : decide (b < 0) = true := by simp [s2]
      go_wp2
      refine bodyPost_ret (v := .tuple #[.agg #[.int .i64 ((p : Int)), .int .i64 (q : Int)], .int .i64 0]) (by simp [results, Tryz.results223, go_sem, kc, kf, kl]) rfl ?_
      rw [HMM.out]; have hb := HB3.out; exact ⟨rfl, (by repeat (first | with_reducible exact Below.refl _ _ | with_reducible assumption | with_reducible refine Below.setCell ?_ (by first | omega | (simp; done) | (simp; omega)) _ | with_reducible refine Below.alloc ?_ (by first | omega | (simp; done) | (simp; omega)) _ | with_reducible refine Below.drew ?_ | with_reducible refine below_drewN ?_ _ | exact Below.refl _ _ | assumption | refine Below.drew ?_ | refine below_drewN ?_ _ | refine Below.alloc ?_ (by first | omega | (simp; done) | (simp; omega)) _ | refine Below.setCell ?_ (by first | omega | (simp; done) | (simp; omega)) _))⟩
    have HMM := hide (show mkFr a b = (⟨-(p : Int), (q : Int)⟩, 0) by rw [HM.out]; simp [s1, s2])
    have t1 : (decide (a < 0) != decide (b < 0)) = true := by simp [s1, s2]
    have t2 : decide (a < 0) = true := by simp [s1]
    have t3 : decide (b < 0) = false := by simp [s2]
    go_wp2
    refine bodyPost_ret (v := .tuple #[.agg #[.int .i64 (-(p : Int)), .int .i64 (q : Int)], .int .i64 0]) (by simp [results, Tryz.results223, go_sem, kc, kf, kl]) rfl ?_
    rw [HMM.out]; have hb := HB3.out; exact ⟨rfl, (by repeat (first | with_reducible exact Below.refl _ _ | with_reducible assumption | with_reducible refine Below.setCell ?_ (by first | omega | (simp; done) | (simp; omega)) _ | with_reducible refine Below.alloc ?_ (by first | omega | (simp; done) | (simp; omega)) _ | with_reducible refine Below.drew ?_ | with_reducible refine below_drewN ?_ _ | exact Below.refl _ _ | assumption | refine Below.drew ?_ | refine below_drewN ?_ _ | refine Below.alloc ?_ (by first | omega | (simp; done) | (simp; omega)) _ | refine Below.setCell ?_ (by first | omega | (simp; done) | (simp; omega)) _))⟩
  by_cases s2 : b < 0
  · skip
    have HMM := hide (show mkFr a b = (⟨-(p : Int), (q : Int)⟩, 0) by rw [HM.out]; simp [s1, s2])
    have t1 : (decide (a < 0) != decide (b < 0)) = true := by simp [s1, s2]
    have t2 : decide (a < 0) = false := by simp [s1]
    have t3 : decide (b < 0) = true := by simp [s2]
    go_wp2
    refine bodyPost_ret (v := .tuple #[.agg #[.int .i64 (-(p : Int)), .int .i64 (q : Int)], .int .i64 0]) (by simp [results, Tryz.results223, go_sem, kc, kf, kl]) rfl ?_
    rw [HMM.out]; have hb := HB3.out; exact ⟨rfl, (by repeat (first | with_reducible exact Below.refl _ _ | with_reducible assumption | with_reducible refine Below.setCell ?_ (by first | omega | (simp; done) | (simp; omega)) _ | with_reducible refine Below.alloc ?_ (by first | omega | (simp; done) | (simp; omega)) _ | with_reducible refine Below.drew ?_ | with_reducible refine below_drewN ?_ _ | exact Below.refl _ _ | assumption | refine Below.drew ?_ | refine below_drewN ?_ _ | refine Below.alloc ?_ (by first | omega | (simp; done) | (simp; omega)) _ | refine Below.setCell ?_ (by first | omega | (simp; done) | (simp; omega)) _))⟩
  have HMM := hide (show mkFr a b = (⟨(p : Int), (q : Int)⟩, 0) by rw [HM.out]; simp [s1, s2])
  have t1 : (decide (a < 0) != decide (b < 0)) = false := by simp [s1, s2]
  have t2 : decide (a < 0) = false := by simp [s1]
  have t3 : decide (b < 0) = false := by simp [s2]
  go_wp2
  refine bodyPost_ret (v := .tuple #[.agg #[.int .i64 ((p : Int)), .int .i64 (q : Int)], .int .i64 0]) (by simp [results, Tryz.results223, go_sem, kc, kf, kl]) rfl ?_
  rw [HMM.out]; have hb := HB3.out; exact ⟨rfl, (by repeat (first | with_reducible exact Below.refl _ _ | with_reducible assumption | with_reducible refine Below.setCell ?_ (by first | omega | (simp; done) | (simp; omega)) _ | with_reducible refine Below.alloc ?_ (by first | omega | (simp; done) | (simp; omega)) _ | with_reducible refine Below.drew ?_ | with_reducible refine below_drewN ?_ _ | exact Below.refl _ _ | assumption | refine Below.drew ?_ | refine below_drewN ?_ _ | refine Below.alloc ?_ (by first | omega | (simp; done) | (simp; omega)) _ | refine Below.setCell ?_ (by first | omega | (simp; done) | (simp; omega)) _))⟩
set_option maxHeartbeats 1000000 in
set_option maxRecDepth 20000 in
theorem c_sMakeFrac (a b : Int) (w : World) (ha : -4611686018427387904 ≤ a ∧ a ≤ 4611686018427387904) (hb : -4611686018427387904 ≤ b ∧ b ≤ 4611686018427387904) : Calls Tryz.prog 238 #[.int .i64 a, .int .i64 b] w fun e w' => e = .returned (.tuple #[.agg #[.int .i64 (mkFr a b).1.fNum, .int .i64 (mkFr a b).1.fDen], .int .i64 (mkFr a b).2]) ∧ Below w.heap.size w w' := by
  have HB1 := hide (show Below w.heap.size w (w.alloc (.cells #[.int .i64 0, .int .i64 0] 64)) from (Below.refl _ _).alloc (Nat.le_refl _) _)
  have HK1 := hide (Bk.born w 64 #[.int .i64 0, .int .i64 0])
  by_cases h0 : b = 0
  · subst h0
    have HM := hide (mkFr_0 a)
    have hb := HB1.out
    have hk := HK1.out; have kc := hk.cell; have kf := hk.free; have kl := hk.lt
    go_enter Tryz.func238, Tryz.ntmps238
    go_wp2
    refine bodyPost_ret (v := .tuple #[.agg #[.int .i64 0, .int .i64 0], .int .i64 1]) (by simp [results, Tryz.results238, go_sem]) rfl ?_
    rw [HM.out]; exact ⟨rfl, (by repeat (first | with_reducible exact Below.refl _ _ | with_reducible assumption | with_reducible refine Below.setCell ?_ (by first | omega | (simp; done) | (simp; omega)) _ | with_reducible refine Below.alloc ?_ (by first | omega | (simp; done) | (simp; omega)) _ | with_reducible refine Below.drew ?_ | with_reducible refine below_drewN ?_ _ | exact Below.refl _ _ | assumption | refine Below.drew ?_ | refine below_drewN ?_ _ | refine Below.alloc ?_ (by first | omega | (simp; done) | (simp; omega)) _ | refine Below.setCell ?_ (by first | omega | (simp; done) | (simp; omega)) _))⟩
  have hb0 : (b == 0) = false := beqI_f h0
  obtain ⟨m, hm⟩ : ∃ m : Int, m = (a.natAbs : Int) := ⟨_, rfl⟩
  obtain ⟨n, hn⟩ : ∃ n : Int, n = (b.natAbs : Int) := ⟨_, rfl⟩
  obtain ⟨g, hg⟩ : ∃ g : Int, g = ((Nat.gcd a.natAbs b.natAbs : Nat) : Int) := ⟨_, rfl⟩
  obtain ⟨p, hp⟩ : ∃ p : Nat, p = a.natAbs / Nat.gcd a.natAbs b.natAbs := ⟨_, rfl⟩
  obtain ⟨q, hq⟩ : ∃ q : Nat, q = b.natAbs / Nat.gcd a.natAbs b.natAbs := ⟨_, rfl⟩
  have hgp : 0 < Nat.gcd a.natAbs b.natAbs := gcd_pos_right (by omega)
  have HQP := hide (show m / g = (p : Int) by rw [hm, hg, hp]; exact (Int.natCast_ediv _ _).symm)
  have HQQ := hide (show n / g = (q : Int) by rw [hn, hg, hq]; exact (Int.natCast_ediv _ _).symm)
  have hple : p ≤ a.natAbs := by rw [hp]; exact Nat.div_le_self _ _
  have hqle : q ≤ b.natAbs := by rw [hq]; exact Nat.div_le_self _ _
  have HBIG := hide (fun h => mkFr_big h0 hp hq h); have HIN := hide (fun h => mkFr_in h0 hp hq h)
  have CM := hide (fun W => c_l02Size a m ha hm W); have CN := hide (fun W => c_l02Size b n hb hn W)
  have CG := hide (fun W => c_l02Gcd m n g (by omega) (by omega) (by rw [hg, hm, hn, Int.natAbs_natCast, Int.natAbs_natCast]) W)
  have hg1 : 1 ≤ g := by omega
  have hm0 : 0 ≤ m ∧ m ≤ 4611686018427387904 := by omega
  have hn0 : 0 ≤ n ∧ n ≤ 4611686018427387904 := by omega
  have hp0 : (p : Int) ≤ 4611686018427387904 := by omega
  have hq0 : (q : Int) ≤ 4611686018427387904 := by omega
  have hgz : ¬ g = 0 := by omega
  clear hm hn hg hp hq hgp hple hqle ha hb h0
  have eq1 : IntKind.u64.wrap (m / g) = (p : Int) := by rw [HQP.out]; exact IntWalk.u64_in _ (by omega)
  have eq2 : IntKind.u64.wrap (n / g) = (q : Int) := by rw [HQQ.out]; exact IntWalk.u64_in _ (by omega)
  have hqp := HQP.out; have hqq := HQQ.out
  have eq3 : IntKind.i64.wrap (p : Int) = (p : Int) := IntWalk.i64_in _ (by omega)
  have eq4 : IntKind.i64.wrap (q : Int) = (q : Int) := IntWalk.i64_in _ (by omega)
  have eq5 : IntKind.i64.wrap (-(p : Int)) = -(p : Int) := IntWalk.i64_in _ (by omega)
  by_cases c1 : 1000000000 < p
  · have HM := hide (HBIG.out (.inl c1)); have d1 : (1000000000 : Int) < (p : Int) := by omega
    clear c1
    go_enter Tryz.func238, Tryz.ntmps238
    go_wp2_with (first | (go_at_call_of 190 (Value.int IntKind.i64 a); refine (CM.out _).mono ?_; rintro e w' ⟨rfl, rfl⟩) | (go_at_call_of 190 (Value.int IntKind.i64 b); refine (CN.out _).mono ?_; rintro e w' ⟨rfl, rfl⟩) | (go_at_call 189; refine (CG.out _).mono ?_; rintro e w2 ⟨rfl, hb2⟩; have HB2 := hide (bthen HB1.out HB1.out.size hb2); have HK2 := hide (HK1.out.below hb2 HK1.out.lt); clear hb2; have kc := HK2.out.cell; have kf := HK2.out.free; have kl := HK2.out.lt))
    refine bodyPost_ret (v := .tuple #[.agg #[.int .i64 0, .int .i64 0], .int .i64 2]) (by simp [results, Tryz.results238, go_sem, kc, kf, kl]) rfl ?_
    rw [HM.out]; have hb := HB2.out; exact ⟨rfl, (by repeat (first | with_reducible exact Below.refl _ _ | with_reducible assumption | with_reducible refine Below.setCell ?_ (by first | omega | (simp; done) | (simp; omega)) _ | with_reducible refine Below.alloc ?_ (by first | omega | (simp; done) | (simp; omega)) _ | with_reducible refine Below.drew ?_ | with_reducible refine below_drewN ?_ _ | exact Below.refl _ _ | assumption | refine Below.drew ?_ | refine below_drewN ?_ _ | refine Below.alloc ?_ (by first | omega | (simp; done) | (simp; omega)) _ | refine Below.setCell ?_ (by first | omega | (simp; done) | (simp; omega)) _))⟩
  have d1 : ¬ (1000000000 : Int) < (p : Int) := by omega
  by_cases c2 : 1000000 < q
  · have HM := hide (HBIG.out (.inr c2)); have d2 : (1000000 : Int) < (q : Int) := by omega
    clear c1 c2
    go_enter Tryz.func238, Tryz.ntmps238
    go_wp2_with (first | (go_at_call_of 190 (Value.int IntKind.i64 a); refine (CM.out _).mono ?_; rintro e w' ⟨rfl, rfl⟩) | (go_at_call_of 190 (Value.int IntKind.i64 b); refine (CN.out _).mono ?_; rintro e w' ⟨rfl, rfl⟩) | (go_at_call 189; refine (CG.out _).mono ?_; rintro e w2 ⟨rfl, hb2⟩; have HB2 := hide (bthen HB1.out HB1.out.size hb2); have HK2 := hide (HK1.out.below hb2 HK1.out.lt); clear hb2; have kc := HK2.out.cell; have kf := HK2.out.free; have kl := HK2.out.lt))
    refine bodyPost_ret (v := .tuple #[.agg #[.int .i64 0, .int .i64 0], .int .i64 2]) (by simp [results, Tryz.results238, go_sem, kc, kf, kl]) rfl ?_
    rw [HM.out]; have hb := HB2.out; exact ⟨rfl, (by repeat (first | with_reducible exact Below.refl _ _ | with_reducible assumption | with_reducible refine Below.setCell ?_ (by first | omega | (simp; done) | (simp; omega)) _ | with_reducible refine Below.alloc ?_ (by first | omega | (simp; done) | (simp; omega)) _ | with_reducible refine Below.drew ?_ | with_reducible refine below_drewN ?_ _ | exact Below.refl _ _ | assumption | refine Below.drew ?_ | refine below_drewN ?_ _ | refine Below.alloc ?_ (by first | omega | (simp; done) | (simp; omega)) _ | refine Below.setCell ?_ (by first | omega | (simp; done) | (simp; omega)) _))⟩
  have d2 : ¬ (1000000 : Int) < (q : Int) := by omega
  have HM := hide (HIN.out (fun h => h.elim c1 c2)); clear c1 c2
  by_cases s1 : a < 0
  · skip
    by_cases s2 : b < 0
    · skip
      have HMM := hide (show mkFr a b = (⟨(p : Int), (q : Int)⟩, 0) by rw [HM.out]; simp [s1, s2])
      have t1 : (decide (a < 0) != decide (b < 0)) = false := by simp [s1, s2]
      have t2 : decide (a < 0) = true := by simp [s1]
      have t3 : decide (b < 0) = true := by simp [s2]
      go_enter Tryz.func238, Tryz.ntmps238
      go_wp2_with (first | (go_at_call_of 190 (Value.int IntKind.i64 a); refine (CM.out _).mono ?_; rintro e w' ⟨rfl, rfl⟩) | (go_at_call_of 190 (Value.int IntKind.i64 b); refine (CN.out _).mono ?_; rintro e w' ⟨rfl, rfl⟩) | (go_at_call 189; refine (CG.out _).mono ?_; rintro e w2 ⟨rfl, hb2⟩; have HB2 := hide (bthen HB1.out HB1.out.size hb2); have HK2 := hide (HK1.out.below hb2 HK1.out.lt); clear hb2; have kc := HK2.out.cell; have kf := HK2.out.free; have kl := HK2.out.lt))
      refine bodyPost_ret (v := .tuple #[.agg #[.int .i64 ((p : Int)), .int .i64 (q : Int)], .int .i64 0]) (by simp [results, Tryz.results238, go_sem, kc, kf, kl]) rfl ?_
      rw [HMM.out]; have hb := HB2.out; exact ⟨rfl, (by repeat (first | with_reducible exact Below.refl _ _ | with_reducible assumption | with_reducible refine Below.setCell ?_ (by first | omega | (simp; done) | (simp; omega)) _ | with_reducible refine Below.alloc ?_ (by first | omega | (simp; done) | (simp; omega)) _ | with_reducible refine Below.drew ?_ | with_reducible refine below_drewN ?_ _ | exact Below.refl _ _ | assumption | refine Below.drew ?_ | refine below_drewN ?_ _ | refine Below.alloc ?_ (by first | omega | (simp; done) | (simp; omega)) _ | refine Below.setCell ?_ (by first | omega | (simp; done) | (simp; omega)) _))⟩
    have HMM := hide (show mkFr a b = (⟨-(p : Int), (q : Int)⟩, 0) by rw [HM.out]; simp [s1, s2])
    have t1 : (decide (a < 0) != decide (b < 0)) = true := by simp [s1, s2]
    have t2 : decide (a < 0) = true := by simp [s1]
    have t3 : decide (b < 0) = false := by simp [s2]
    go_enter Tryz.func238, Tryz.ntmps238
    go_wp2_with (first | (go_at_call_of 190 (Value.int IntKind.i64 a); refine (CM.out _).mono ?_; rintro e w' ⟨rfl, rfl⟩) | (go_at_call_of 190 (Value.int IntKind.i64 b); refine (CN.out _).mono ?_; rintro e w' ⟨rfl, rfl⟩) | (go_at_call 189; refine (CG.out _).mono ?_; rintro e w2 ⟨rfl, hb2⟩; have HB2 := hide (bthen HB1.out HB1.out.size hb2); have HK2 := hide (HK1.out.below hb2 HK1.out.lt); clear hb2; have kc := HK2.out.cell; have kf := HK2.out.free; have kl := HK2.out.lt))
    refine bodyPost_ret (v := .tuple #[.agg #[.int .i64 (-(p : Int)), .int .i64 (q : Int)], .int .i64 0]) (by simp [results, Tryz.results238, go_sem, kc, kf, kl]) rfl ?_
    rw [HMM.out]; have hb := HB2.out; exact ⟨rfl, (by repeat (first | with_reducible exact Below.refl _ _ | with_reducible assumption | with_reducible refine Below.setCell ?_ (by first | omega | (simp; done) | (simp; omega)) _ | with_reducible refine Below.alloc ?_ (by first | omega | (simp; done) | (simp; omega)) _ | with_reducible refine Below.drew ?_ | with_reducible refine below_drewN ?_ _ | exact Below.refl _ _ | assumption | refine Below.drew ?_ | refine below_drewN ?_ _ | refine Below.alloc ?_ (by first | omega | (simp; done) | (simp; omega)) _ | refine Below.setCell ?_ (by first | omega | (simp; done) | (simp; omega)) _))⟩
  by_cases s2 : b < 0
  · skip
    have HMM := hide (show mkFr a b = (⟨-(p : Int), (q : Int)⟩, 0) by rw [HM.out]; simp [s1, s2])
    have t1 : (decide (a < 0) != decide (b < 0)) = true := by simp [s1, s2]
    have t2 : decide (a < 0) = false := by simp [s1]
    have t3 : decide (b < 0) = true := by simp [s2]
    go_enter Tryz.func238, Tryz.ntmps238
    go_wp2_with (first | (go_at_call_of 190 (Value.int IntKind.i64 a); refine (CM.out _).mono ?_; rintro e w' ⟨rfl, rfl⟩) | (go_at_call_of 190 (Value.int IntKind.i64 b); refine (CN.out _).mono ?_; rintro e w' ⟨rfl, rfl⟩) | (go_at_call 189; refine (CG.out _).mono ?_; rintro e w2 ⟨rfl, hb2⟩; have HB2 := hide (bthen HB1.out HB1.out.size hb2); have HK2 := hide (HK1.out.below hb2 HK1.out.lt); clear hb2; have kc := HK2.out.cell; have kf := HK2.out.free; have kl := HK2.out.lt))
    refine bodyPost_ret (v := .tuple #[.agg #[.int .i64 (-(p : Int)), .int .i64 (q : Int)], .int .i64 0]) (by simp [results, Tryz.results238, go_sem, kc, kf, kl]) rfl ?_
    rw [HMM.out]; have hb := HB2.out; exact ⟨rfl, (by repeat (first | with_reducible exact Below.refl _ _ | with_reducible assumption | with_reducible refine Below.setCell ?_ (by first | omega | (simp; done) | (simp; omega)) _ | with_reducible refine Below.alloc ?_ (by first | omega | (simp; done) | (simp; omega)) _ | with_reducible refine Below.drew ?_ | with_reducible refine below_drewN ?_ _ | exact Below.refl _ _ | assumption | refine Below.drew ?_ | refine below_drewN ?_ _ | refine Below.alloc ?_ (by first | omega | (simp; done) | (simp; omega)) _ | refine Below.setCell ?_ (by first | omega | (simp; done) | (simp; omega)) _))⟩
  have HMM := hide (show mkFr a b = (⟨(p : Int), (q : Int)⟩, 0) by rw [HM.out]; simp [s1, s2])
  have t1 : (decide (a < 0) != decide (b < 0)) = false := by simp [s1, s2]
  have t2 : decide (a < 0) = false := by simp [s1]
  have t3 : decide (b < 0) = false := by simp [s2]
  go_enter Tryz.func238, Tryz.ntmps238
  go_wp2_with (first | (go_at_call_of 190 (Value.int IntKind.i64 a); refine (CM.out _).mono ?_; rintro e w' ⟨rfl, rfl⟩) | (go_at_call_of 190 (Value.int IntKind.i64 b); refine (CN.out _).mono ?_; rintro e w' ⟨rfl, rfl⟩) | (go_at_call 189; refine (CG.out _).mono ?_; rintro e w2 ⟨rfl, hb2⟩; have HB2 := hide (bthen HB1.out HB1.out.size hb2); have HK2 := hide (HK1.out.below hb2 HK1.out.lt); clear hb2; have kc := HK2.out.cell; have kf := HK2.out.free; have kl := HK2.out.lt))
  refine bodyPost_ret (v := .tuple #[.agg #[.int .i64 ((p : Int)), .int .i64 (q : Int)], .int .i64 0]) (by simp [results, Tryz.results238, go_sem, kc, kf, kl]) rfl ?_
  rw [HMM.out]; have hb := HB2.out; exact ⟨rfl, (by repeat (first | with_reducible exact Below.refl _ _ | with_reducible assumption | with_reducible refine Below.setCell ?_ (by first | omega | (simp; done) | (simp; omega)) _ | with_reducible refine Below.alloc ?_ (by first | omega | (simp; done) | (simp; omega)) _ | with_reducible refine Below.drew ?_ | with_reducible refine below_drewN ?_ _ | exact Below.refl _ _ | assumption | refine Below.drew ?_ | refine below_drewN ?_ _ | refine Below.alloc ?_ (by first | omega | (simp; done) | (simp; omega)) _ | refine Below.setCell ?_ (by first | omega | (simp; done) | (simp; omega)) _))⟩
end Go.Proofs.YteiflbhcehajkaaGreatDoor
