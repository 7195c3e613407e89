/- Contracts: which lists of changes are valid; the law ValidChanges. -/
import Derived.Test.YtjbcanihpcfncaaDoorUc
namespace Go.Proofs.YtjbcanihpcfncaaDoor
open Go.RowKit
theorem chgOk_cases {c : Chg} (h : chgOk c = true) : (c.k = 1 ∨ c.k = 2) ∧ inB c.p 0 200 = true ∧ decide ((10 : UInt8) ∈ c.t.data.toList) = false := by
  simp only [chgOk, Bool.and_eq_true] at h
  obtain ⟨⟨h1, h2⟩, h3⟩ := h
  exact ⟨by have := inB_true.1 h1; omega, h2, by simpa using h3⟩
theorem chgOk_no {c : Chg} (h : chgOk c = false) : (¬ c.k = 1 ∧ ¬ c.k = 2) ∨ (c.k = 1 ∧ inB c.p 0 200 = false) ∨ (c.k = 2 ∧ inB c.p 0 200 = false) ∨ (c.k = 1 ∧ inB c.p 0 200 = true ∧ decide ((10 : UInt8) ∈ c.t.data.toList) = true) ∨ (c.k = 2 ∧ inB c.p 0 200 = true ∧ decide ((10 : UInt8) ∈ c.t.data.toList) = true) := by
  cases h3 : inB c.p 0 200 <;> by_cases h4 : (10 : UInt8) ∈ c.t.data.toList <;> by_cases h1 : c.k = 1 <;> by_cases h2 : c.k = 2 <;> simp [h1, h2, h4]
  all_goals
    exfalso
    have : inB c.k 1 2 = true := inB_true.2 (by omega)
    simp [chgOk, h3, h4, this] at h
set_option maxHeartbeats 2000000 in
theorem c_areChanges (v : Value) (cs : List Chg) (w : World) (hr : RdC w v cs) : Calls Tryd.prog 16 #[v] w fun e w' => e = .returned (.bool (chgS cs)) ∧ Below w.heap.size w w' := by
  obtain ⟨A, cap, rfl, hl, hc, hx⟩ := hr.openC
  have HX := hide hx; clear hx hr
  go_enter Tryd.func16, Tryd.ntmps16
  go_wp2
  go_loopw [7] (fun i wr => ∃ k : Nat, k ≤ cs.length ∧ i = .int .i64 k ∧ chgTo cs k = true ∧ Below w.heap.size w wr) (fun i _ => cs.length - (intOf i).toNat)
  case atStart => exact ⟨0, Nat.zero_le _, rfl, rfl, Below.refl _ _⟩
  case round =>
    obtain ⟨k, hk, rfl, ht, hb⟩ := hrel
    have HT := hide ht; have HB := hide hb; clear ht hb
    by_cases hlt : k < cs.length
    · obtain ⟨b, off, rfl, hbw, e0, e1, e2⟩ := HX.out k cs[k] (List.getElem?_eq_getElem hlt)
      have d0 := (HB.out.cell hbw).trans e0
      have d1 := (HB.out.cell hbw).trans e1
      have d2 := (HB.out.cell hbw).trans e2
      have hbr : b < wr.heap.size := Nat.lt_of_lt_of_le hbw HB.out.size
      clear e0 e1 e2
      have hgc := List.getElem?_eq_getElem hlt
      generalize hg : cs[k] = c at *
      have HG := hide hgc; clear hg hgc
      cases hok : chgOk c
      · have HNO := hide (chgS_no hlt (chgAt_bad HG.out hok))
        rcases chgOk_no hok with ⟨t1, t2⟩ | ⟨t1, t2⟩ | ⟨t1, t2⟩ | ⟨t1, t2, t3⟩ | ⟨t1, t2, t3⟩
        all_goals
          have HOK := hide hok
          clear hok
          go_wp2_with (first | (go_at_call 29; refine (c_within _ _ _ _).mono ?_; rintro e w' ⟨rfl, rfl⟩; rw [t2]) | (go_at_call 30; refine (c_noNl _ _).mono ?_; rintro e w' ⟨rfl, rfl⟩; rw [t3]))
          go_ret
          exact ⟨by rw [HNO.out]; rfl, HB.out.alloc HB.out.size _⟩
      · obtain ⟨t1, t2, t3⟩ := chgOk_cases hok
        cases k with
        | zero =>
          have HA := hide ((chgAt_zero HG.out).trans hok)
          clear hok
          simp only [Nat.zero_mul, Nat.add_zero] at d0 d1 d2
          rcases t1 with t1 | t1
          all_goals
            go_wp2_with (first | (go_at_call 29; refine (c_within _ _ _ _).mono ?_; rintro e w' ⟨rfl, rfl⟩; rw [t2]) | (go_at_call 30; refine (c_noNl _ _).mono ?_; rintro e w' ⟨rfl, rfl⟩; rw [t3]))
            go_quiet (fail)
            go_wp2
            go_roundw
            case rel => exact ⟨1, by omega, by go_num, by rw [chgTo_succ, HT.out, HA.out]; rfl, below_drewN (HB.out.alloc HB.out.size _) _⟩
            case measure => simp [intOf]; omega
        | succ j =>
          have hj : j < cs.length := by omega
          obtain ⟨b', off', hbe, hbw', e0, e1, e2⟩ := HX.out j cs[j] (List.getElem?_eq_getElem hj)
          cases hbe
          have g0 := (HB.out.cell hbw).trans e0
          have g1 := (HB.out.cell hbw).trans e1
          clear e0 e1 e2 hbw'
          have hgb := List.getElem?_eq_getElem hj
          generalize hg : cs[j] = p at *
          have HA := hide (chgAt_succ hgb HG.out)
          clear hg hgb
          have hone : ((j + 1 : Nat) : Int) - 1 = (j : Int) := by omega
          have hpos : (0 : Int) < ((j + 1 : Nat) : Int) := by omega
          have hwr : IntKind.i64.wrap (j : Int) = (j : Int) := IntWalk.i64_in _ (by omega)
          cases hnx : chgNext p c
          · have HNO := hide (chgS_no hlt (by rw [HA.out, hok, hnx]; rfl))
            have hq : c.p < p.p ∨ (p.p = c.p ∧ p.k = 1) := by
              simp only [chgNext, Bool.or_eq_false_iff, Bool.and_eq_false_iff, decide_eq_false_iff_not] at hnx
              omega
            clear hnx hok
            rcases t1 with t1 | t1 <;> rcases hq with hq | ⟨hq, hq2⟩
            all_goals
              go_wp2_with (first | (go_at_call 29; refine (c_within _ _ _ _).mono ?_; rintro e w' ⟨rfl, rfl⟩; rw [t2]) | (go_at_call 30; refine (c_noNl _ _).mono ?_; rintro e w' ⟨rfl, rfl⟩; rw [t3]))
              go_quiet (fail)
              go_wp2
              go_ret
              exact ⟨by rw [HNO.out]; rfl, below_drewN (HB.out.alloc HB.out.size _) _⟩
          · have HAT := hide (show chgAt cs (j + 1) = true by rw [HA.out, hok, hnx]; rfl)
            have hq : (¬ c.p < p.p ∧ ¬ p.p = c.p) ∨ (p.p = c.p ∧ ¬ p.k = 1) := by
              simp only [chgNext, Bool.or_eq_true, Bool.and_eq_true, decide_eq_true_eq] at hnx
              omega
            clear hnx hok
            rcases t1 with t1 | t1 <;> rcases hq with ⟨hq, hq2⟩ | ⟨hq, hq2⟩
            all_goals
              go_wp2_with (first | (go_at_call 29; refine (c_within _ _ _ _).mono ?_; rintro e w' ⟨rfl, rfl⟩; rw [t2]) | (go_at_call 30; refine (c_noNl _ _).mono ?_; rintro e w' ⟨rfl, rfl⟩; rw [t3]))
              go_quiet (fail)
              go_wp2
              go_roundw
              case rel => exact ⟨j + 1 + 1, by omega, by go_num, by rw [chgTo_succ, HT.out, HAT.out]; rfl, below_drewN (HB.out.alloc HB.out.size _) _⟩
              case measure => simp [intOf]; omega
    · have : k = cs.length := by omega
      subst this
      have hS : chgS cs = decide (cs.length ≤ 400) := by simp [chgS, HT.out]
      have HS := hide hS; clear hS
      go_wp2
      go_ret
      exact ⟨by rw [HS.out]; first | rfl | (simp; done) | (simp; omega), HB.out⟩
end Go.Proofs.YtjbcanihpcfncaaDoor
