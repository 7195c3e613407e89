/- Contracts: which lists of changes are valid, by the reference; the law ValidChanges. -/
import Derived.Test.YtjbcanihpcfncaaDoorUd
import Derived.Test.YtjbcanihpcfncaaDoorUg
namespace Go.Proofs.YtjbcanihpcfncaaDoor
open Go.RowKit
theorem take_no {α : Type} {l : List α} {k : Nat} {x y : α} (h : ¬ x ∈ l.take k) (hk : l[k]? = some y) (hy : y ≠ x) : ¬ x ∈ l.take (k + 1) := by
  rw [take_snoc_of hk]; simp [h]; exact fun e => hy e.symm
set_option maxHeartbeats 1000000 in
theorem c_l32Plain (s : ByteArray) (w : World) (hs : s.size ≤ 9223372036854775807) : Calls Tryd.prog 23 #[.string s] w fun e w' => e = .returned (.bool (!decide ((10 : UInt8) ∈ s.data.toList))) ∧ w = w' := by
  have hsz : s.data.toList.length = s.size := by simp
  generalize hR : (!decide ((10 : UInt8) ∈ s.data.toList)) = R
  have HRR := hide hR; clear hR
  go_enter Tryd.func23, Tryd.ntmps23
  go_wp2
  go_loop [3] (fun i => ∃ k : Nat, k ≤ s.size ∧ i = .int .i64 k ∧ ¬ (10 : UInt8) ∈ s.data.toList.take k) (fun i => s.size - (intOf i).toNat)
  case atStart => exact ⟨0, Nat.zero_le _, rfl, by simp⟩
  case round =>
    obtain ⟨k, hk, rfl, hn⟩ := hrel
    have HN := hide hn; clear hn
    by_cases hlt : k < s.size
    · have hgb : s.data.toList[k]? = some (s.data.toList[k]'(by omega)) := List.getElem?_eq_getElem (by omega)
      have hbb : bA s k = (s.data.toList[k]'(by omega)).toNat := by unfold bA; rw [List.getD_eq_getElem?_getD, hgb]; rfl
      have hge := bA_get hlt
      generalize hgg : s.data.toList[k]'(by omega) = b at *
      have HG := hide hgb; clear hgb hgg
      by_cases hb : bA s k = 10
      · have hb2 : ((bA s k : Int) == 10) = true := by rw [hb]; rfl
        have HH := hide (show b = 10 from UInt8.toNat_inj.1 (by rw [← hbb, hb]; rfl)); clear hb hbb
        rw [← hge] at hb2
        go_wp2
        go_ret
        have hm : (10 : UInt8) ∈ s.data.toList := by have := HG.out; rw [HH.out] at this; exact List.mem_of_getElem? this
        have hd : R = false := by rw [← HRR.out, decide_eq_true hm]; rfl
        exact ⟨by rw [hd]; rfl, rfl⟩
      · have hb2 : ((bA s k : Int) == 10) = false := by simp; omega
        have HH := hide (show b ≠ 10 from fun e => hb (by rw [hbb, e]; rfl)); clear hb hbb
        rw [← hge] at hb2
        go_wp2
        go_round
        case rel => exact ⟨k + 1, by omega, by go_num, take_no HN.out HG.out HH.out⟩
        case measure => simp [intOf]; omega
    · go_wp2
      go_ret
      have hm := HN.out
      rw [List.take_of_length_le (by omega)] at hm
      have hd : R = true := by rw [← HRR.out, decide_eq_false hm]; rfl
      exact ⟨by rw [hd]; rfl, rfl⟩
set_option maxHeartbeats 2000000 in
theorem c_l32Ok (v : Value) (cs : List Chg) (w : World) (hr : RdC w v cs) (hsz : ∀ c ∈ cs, c.t.size ≤ 9223372036854775807) : Calls Tryd.prog 13 #[v] w fun e w' => e = .returned (.bool (chgS cs)) ∧ Below w.heap.size w w' := by
  obtain ⟨A, cap, rfl, hl, hc, hx⟩ := hr.openC
  have HX := hide hx; have HZ := hide hsz; clear hx hr hsz
  by_cases h4 : 400 < cs.length
  · have hS : chgS cs = false := by simp [chgS]; omega
    have HS := hide hS; clear hS
    go_enter Tryd.func13, Tryd.ntmps13
    go_wp2
    go_ret
    exact ⟨by rw [HS.out]; rfl, (by repeat (first | exact Below.refl _ _ | assumption | refine Below.drew ?_ | refine below_drewN ?_ _ | refine Below.alloc ?_ (by simp <;> omega) _ | refine Below.setCell ?_ (by simp <;> omega) _))⟩
  go_enter Tryd.func13, Tryd.ntmps13
  go_wp2
  go_loopw [3] (fun i wr => ∃ k : Nat, k ≤ cs.length ∧ i = .int .i64 k ∧ chgTo cs k = true ∧ Below w.heap.size w wr) (fun i _ => cs.length - (intOf i).toNat)
  case atStart => exact ⟨0, Nat.zero_le _, rfl, rfl, Below.refl _ _⟩
  case round =>
    obtain ⟨k, hk, rfl, ht, hb⟩ := hrel
    have HT := hide ht; have HB := hide hb; clear ht hb
    by_cases hlt : k < cs.length
    · obtain ⟨b, off, rfl, hbw, e0, e1, e2⟩ := HX.out k cs[k] (List.getElem?_eq_getElem hlt)
      have d0 := (HB.out.cell hbw).trans e0
      have d1 := (HB.out.cell hbw).trans e1
      have d2 := (HB.out.cell hbw).trans e2
      have hbr : b < wr.heap.size := Nat.lt_of_lt_of_le hbw HB.out.size
      have hcz := HZ.out cs[k] (List.getElem_mem hlt)
      clear e0 e1 e2
      have hgc := List.getElem?_eq_getElem hlt
      generalize hg : cs[k] = c at *
      have HG := hide hgc; clear hg hgc
      cases hok : chgOk c
      · have HNO := hide (chgS_no hlt (chgAt_bad HG.out hok))
        have hq : inB c.k 1 2 = false ∨ (inB c.k 1 2 = true ∧ inB c.p 0 200 = false) ∨ (inB c.k 1 2 = true ∧ inB c.p 0 200 = true ∧ (!decide ((10 : UInt8) ∈ c.t.data.toList)) = false) := by
          cases h1 : inB c.k 1 2 <;> cases h2 : inB c.p 0 200 <;> simp_all [chgOk]
        rcases hq with t1 | ⟨t1, t2⟩ | ⟨t1, t2, t3⟩
        all_goals
          have HOK := hide hok
          clear hok
          go_wp2_with (first | (go_at_call 22; refine (c_l00In _ _ _ _).mono ?_; rintro e w' ⟨rfl, rfl⟩; first | rw [t1] | rw [t2]) | (go_at_call 23; refine (c_l32Plain _ _ hcz).mono ?_; rintro e w' ⟨rfl, rfl⟩; rw [t3]))
          go_ret
          exact ⟨by rw [HNO.out]; rfl, HB.out.alloc HB.out.size _⟩
      · obtain ⟨_, t2, t3'⟩ := chgOk_cases hok
        have t3 : (!decide ((10 : UInt8) ∈ c.t.data.toList)) = true := by rw [t3']; rfl
        have t1 : inB c.k 1 2 = true := by have := chgOk_cases hok; rw [inB_true]; omega
        clear t3'
        cases k with
        | zero =>
          have HA := hide ((chgAt_zero HG.out).trans hok)
          clear hok
          simp only [Nat.zero_mul, Nat.add_zero] at d0 d1 d2
          go_wp2_with (first | (go_at_call 22; refine (c_l00In _ _ _ _).mono ?_; rintro e w' ⟨rfl, rfl⟩; first | rw [t1] | rw [t2]) | (go_at_call 23; refine (c_l32Plain _ _ hcz).mono ?_; rintro e w' ⟨rfl, rfl⟩; rw [t3]))
          go_quiet (fail)
          go_wp2
          go_roundw
          case rel => exact ⟨1, by omega, by go_num, by rw [chgTo_succ, HT.out, HA.out]; rfl, below_drewN (HB.out.alloc HB.out.size _) _⟩
          case measure => simp [intOf]; omega
        | succ j =>
          have hj : j < cs.length := by omega
          obtain ⟨b', off', hbe, hbw', e0, e1, e2⟩ := HX.out j cs[j] (List.getElem?_eq_getElem hj)
          cases hbe
          have g0 := (HB.out.cell hbw).trans e0
          have g1 := (HB.out.cell hbw).trans e1
          clear e0 e1 e2 hbw'
          have hgb := List.getElem?_eq_getElem hj
          generalize hg : cs[j] = p at *
          have HA := hide (chgAt_succ hgb HG.out)
          clear hg hgb
          have hone : ((j + 1 : Nat) : Int) - 1 = (j : Int) := by omega
          have hpos : (0 : Int) < ((j + 1 : Nat) : Int) := by omega
          have hwr : IntKind.i64.wrap (j : Int) = (j : Int) := IntWalk.i64_in _ (by omega)
          cases hnx : chgNext p c
          · have HNO := hide (chgS_no hlt (by rw [HA.out, hok, hnx]; rfl))
            have hq : c.p < p.p ∨ (p.p = c.p ∧ p.k = 1) := by
              simp only [chgNext, Bool.or_eq_false_iff, Bool.and_eq_false_iff, decide_eq_false_iff_not] at hnx
              omega
            clear hnx hok
            rcases hq with hq | ⟨hq, hq2⟩
            all_goals
              go_wp2_with (first | (go_at_call 22; refine (c_l00In _ _ _ _).mono ?_; rintro e w' ⟨rfl, rfl⟩; first | rw [t1] | rw [t2]) | (go_at_call 23; refine (c_l32Plain _ _ hcz).mono ?_; rintro e w' ⟨rfl, rfl⟩; rw [t3]))
              go_quiet (fail)
              go_wp2
              go_ret
              exact ⟨by rw [HNO.out]; rfl, below_drewN (HB.out.alloc HB.out.size _) _⟩
          · have HAT := hide (show chgAt cs (j + 1) = true by rw [HA.out, hok, hnx]; rfl)
            have hq : (¬ c.p < p.p ∧ ¬ c.p = p.p) ∨ (p.p = c.p ∧ ¬ p.k = 1) := by
              simp only [chgNext, Bool.or_eq_true, Bool.and_eq_true, decide_eq_true_eq] at hnx
              omega
            clear hnx hok
            rcases hq with ⟨hq, hq2⟩ | ⟨hq, hq2⟩
            all_goals
              go_wp2_with (first | (go_at_call 22; refine (c_l00In _ _ _ _).mono ?_; rintro e w' ⟨rfl, rfl⟩; first | rw [t1] | rw [t2]) | (go_at_call 23; refine (c_l32Plain _ _ hcz).mono ?_; rintro e w' ⟨rfl, rfl⟩; rw [t3]))
              go_quiet (fail)
              go_wp2
              go_roundw
              case rel => exact ⟨j + 1 + 1, by omega, by go_num, by rw [chgTo_succ, HT.out, HAT.out]; rfl, below_drewN (HB.out.alloc HB.out.size _) _⟩
              case measure => simp [intOf]; omega
    · have : k = cs.length := by omega
      subst this
      have hS : chgS cs = true := by simp [chgS, HT.out]; omega
      have HS := hide hS; clear hS
      go_wp2
      go_ret
      exact ⟨by rw [HS.out]; rfl, HB.out⟩
end Go.Proofs.YtjbcanihpcfncaaDoor
