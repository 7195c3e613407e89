/- Contracts: changes that are valid. -/
import Derived.Test.YtjapidcbfnknkaaDoorAa
import Derived.Test.YtjapidcbfnknkaaDoorUa
namespace Go.Proofs.YtjapidcbfnknkaaDoor
open Go.RowKit
set_option maxHeartbeats 400000 in
theorem c_szChange (c : Chg) (n : Int) (w : World) (hn : c.t.size ≤ 9223372036854775807) (h0 : 0 ≤ n) (h1 : n ≤ 1048576) :
    Calls Tryd.prog 68 #[.agg #[.int .i64 c.k, .int .i64 c.p, .string c.t], .int .i64 n] w fun e w' => e = .returned (.int .i64 (if n < c.t.size then -1 else n - c.t.size)) ∧ Below w.heap.size w w' := by
  go_enter Tryd.func68, Tryd.ntmps68
  go_wp2
  all_goals go_ret
  all_goals exact ⟨rfl, (Below.refl _ _).alloc (Nat.le_refl _) _⟩
set_option maxHeartbeats 400000 in
theorem c_toChange (c : Chg) (w : World) :
    Calls Tryd.prog 70 #[.agg #[.int .i64 c.k, .int .i64 c.p, .string c.t]] w fun e w' => e = .returned (.agg #[.int .i64 c.k, .int .i64 c.p, .string c.t]) ∧ Below w.heap.size w w' := by
  go_enter Tryd.func70, Tryd.ntmps70
  go_wp2
  refine bodyPost_ret (v := .agg #[.int .i64 c.k, .int .i64 c.p, .string c.t]) (by simp [results, Tryd.results70, go_sem]) rfl ?_
  exact ⟨rfl, (by repeat (first | exact Below.refl _ _ | assumption | refine Below.drew ?_ | refine below_drewN ?_ _ | refine Below.alloc ?_ (by simp <;> omega) _ | refine Below.setCell ?_ (by simp <;> omega) _))⟩
set_option maxHeartbeats 400000 in
theorem c_eqChange (c d : Chg) (w : World) :
    Calls Tryd.prog 67 #[.agg #[.int .i64 c.k, .int .i64 c.p, .string c.t], .agg #[.int .i64 d.k, .int .i64 d.p, .string d.t]] w fun e w' => e = .returned (.bool (decide (c = d))) ∧ Below w.heap.size w w' := by
  go_enter Tryd.func67, Tryd.ntmps67
  go_wp2
  all_goals go_ret
  all_goals refine ⟨?_, ((Below.refl _ _).alloc (Nat.le_refl _) _).alloc (by simp) _⟩
  all_goals refine ret_bool ?_
  all_goals (obtain ⟨k1, p1, t1⟩ := c; obtain ⟨k2, p2, t2⟩ := d; simp_all [Chg.mk.injEq, str_eq])

/-- The room that is left by a list of changes; -1 where it does not suffice. -/
def roomF : Int → List Chg → Int
  | n, [] => n
  | n, c :: r => if n < c.t.size then -1 else roomF (n - c.t.size) r
theorem roomF_bd (cs : List Chg) : ∀ n : Int, 0 ≤ n → -1 ≤ roomF n cs ∧ roomF n cs ≤ n := by
  induction cs with
  | nil => intro n h; simp [roomF]; omega
  | cons c r ih =>
    intro n h
    simp only [roomF]
    split
    · omega
    · have := ih (n - c.t.size) (by omega); omega
set_option maxHeartbeats 400000 in
theorem c_szChangeS (v : Value) (cs : List Chg) (w : World) (hr : RdC w v cs) (hs : ∀ c ∈ cs, c.t.size ≤ 9223372036854775807) :
    Calls Tryd.prog 25 #[v, .int .i64 1048576] w fun e w' => e = .returned (.int .i64 (if 1048576 < cs.length then -1 else roomF (1048576 - cs.length) cs)) ∧ Below w.heap.size w w' := by
  obtain ⟨A, cap, rfl, hl, hc, hx⟩ := hr.openC
  have HX := hide hx; have HS := hide hs; clear hx hr hs
  by_cases h4 : 1048576 < cs.length
  · go_enter Tryd.func25, Tryd.ntmps25
    go_wp2
    go_ret
    exact ⟨by simp [h4], (by repeat (first | exact Below.refl _ _ | assumption | refine Below.drew ?_ | refine below_drewN ?_ _ | refine Below.alloc ?_ (by simp <;> omega) _ | refine Below.setCell ?_ (by simp <;> omega) _))⟩
  · go_enter Tryd.func25, Tryd.ntmps25
    go_wp2
    go_loopw [1, 5] (fun t i wr => ∃ (k : Nat) (n : Int), k ≤ cs.length ∧ i = .int .i64 k ∧ t = .int .i64 n ∧ 0 ≤ n ∧ n ≤ 1048576 ∧ roomF n (cs.drop k) = roomF (1048576 - cs.length) cs ∧ Below w.heap.size w wr) (fun _ i _ => cs.length - (intOf i).toNat)
    case atStart => exact ⟨0, _, Nat.zero_le _, rfl, rfl, by omega, by omega, by simp, Below.refl _ _⟩
    case round =>
      obtain ⟨k, n, hk, rfl, rfl, hn0, hn1, hf, hb⟩ := hrel
      have HF := hide hf; have HB := hide hb; clear hf hb
      by_cases hlt : k < cs.length
      · obtain ⟨b, off, rfl, hbw, e0, e1, e2⟩ := HX.out k cs[k] (List.getElem?_eq_getElem hlt)
        have hsz := HS.out cs[k] (List.getElem_mem hlt)
        have d0 := (HB.out.cell hbw).trans e0
        have d1 := (HB.out.cell hbw).trans e1
        have d2 := (HB.out.cell hbw).trans e2
        clear e0 e1 e2
        have hstep : roomF n (cs.drop k) = if n < cs[k].t.size then -1 else roomF (n - cs[k].t.size) (cs.drop (k + 1)) := by rw [List.drop_eq_getElem_cons hlt]; rfl
        rw [HF.out] at hstep
        generalize hg : cs[k] = c at *
        have HST := hide hstep; have HG := hide hg; clear hstep hg
        by_cases hlow : n < c.t.size
        · go_wp2_with (go_at_call 68; refine (c_szChange c _ _ hsz (by omega) (by omega)).mono ?_; rintro e w1 ⟨rfl, hb1⟩; rw [if_pos hlow])
          go_ret
          have hv := HST.out
          rw [if_pos hlow] at hv
          exact ⟨by first | (rw [hv]; done) | (rw [hv]; rfl) | (rw [if_neg h4, hv]; rfl), bthen HB.out HB.out.size hb1⟩
        · go_wp2_with (go_at_call 68; refine (c_szChange c _ _ hsz (by omega) (by omega)).mono ?_; rintro e w1 ⟨rfl, hb1⟩; rw [if_neg hlow])
          go_roundw
          case rel => exact ⟨k + 1, n - c.t.size, by omega, by go_num, rfl, by omega, by omega, by rw [HST.out, if_neg (by omega)], bthen HB.out HB.out.size hb1⟩
          case measure => simp [intOf]; omega
      · go_wp2
        go_ret
        have : k = cs.length := by omega
        subst this
        have := HF.out
        rw [List.drop_length] at this
        exact ⟨by first | (rw [← this]; rfl) | (rw [if_neg h4, ← this]; rfl), HB.out⟩
end Go.Proofs.YtjapidcbfnknkaaDoor
