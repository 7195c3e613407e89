/- ApplyChanges: the law. -/
import Derived.Test.YtjapidcbfnknkaaDoorXe
namespace Go.Proofs.YtjapidcbfnknkaaDoor
open Go.RowKit
theorem roomF_sizes (cs : List Chg) : ∀ n : Int, 0 ≤ n → 0 ≤ roomF n cs → ∀ c ∈ cs, (c.t.size : Int) ≤ n := by
  induction cs with
  | nil => intro n _ _ c hc; simp at hc
  | cons d r ih =>
    intro n h0 h c hc
    simp only [roomF] at h
    split at h
    · omega
    · rcases List.mem_cons.1 hc with rfl | hc
      · omega
      · have := ih (n - d.t.size) (by omega) h c hc; omega
theorem cs_App (s : ByteArray) (v : Value) (cs : List Chg) (p : ByteArray × Int) (w : World) (hs : s.size ≤ 1048576) (hr : RdC w v cs) (hz : ∀ c ∈ cs, c.t.size ≤ 1048576) (hp : applyF s cs = p) :
    Calls Tryd.prog 26 #[.string s, v] w fun e w' => e = .returned (.tuple #[.string p.1, .int .i64 p.2]) ∧ Below w.heap.size w w' := by
  subst hp; exact c_sApply s v cs w hs hr hz
theorem ci_App (s : ByteArray) (v : Value) (cs : List Chg) (p : ByteArray × Int) (w : World) (hs : s.size ≤ 1048576) (hr : RdC w v cs) (hz : ∀ c ∈ cs, c.t.size ≤ 1048576) (hp : applyF s cs = p) :
    Calls Tryd.prog 28 #[.string s, v] w fun e w' => e = .returned (.tuple #[.string p.1, .int .i64 p.2]) ∧ Below w.heap.size w w' := by
  subst hp; exact c_iApply s v cs w hs hr hz
set_option maxHeartbeats 1000000 in
set_option maxRecDepth 100000 in
theorem law_ApplyChanges (s : ByteArray) (v : Value) (cs : List Chg) (w : World) (hr : RdC w v cs) (hsz : ∀ c ∈ cs, GoodC c) : Calls Tryd.prog 6 #[.string s, v] w fun e w' => e = .returned (.bool true) ∧ Below w.heap.size w w' := by
  by_cases hs : s.size ≤ 1048576
  · have hroom : (if 1048576 < cs.length then (-1 : Int) else roomF (1048576 - cs.length) cs) < 0 ∨ (0 ≤ (if 1048576 < cs.length then (-1 : Int) else roomF (1048576 - cs.length) cs) ∧ cs.length ≤ 1048576 ∧ ∀ c ∈ cs, c.t.size ≤ 1048576) := by
      split
      · left; omega
      · next h =>
        rcases Int.lt_or_le (roomF (1048576 - cs.length) cs) 0 with h1 | h1
        · exact .inl h1
        · right
          refine ⟨h1, by omega, fun c hc => ?_⟩
          have := roomF_sizes cs _ (by omega) h1 c hc
          omega
    generalize hR : (if 1048576 < cs.length then (-1 : Int) else roomF (1048576 - cs.length) cs) = R at *
    generalize hp : applyF s cs = p at *
    have HP := hide hp; have HRM := hide hR; have HR := hide hr; have HZ := hide hsz; clear hR hr hsz hp
    rcases hroom with hneg | ⟨hpos, hn, hz2⟩
    · go_enter Tryd.func6, Tryd.ntmps6
      go_wp2_with (go_at_call 25; refine (c_szChangeS _ cs _ HR.out HZ.out).mono ?_; rintro e w1 ⟨rfl, hb1⟩; rw [HRM.out])
      go_ret
      exact ⟨rfl, hb1⟩
    · have hnn : ¬ R < 0 := by omega
      have HZ2 := hide hz2; clear hz2
      go_enter Tryd.func6, Tryd.ntmps6
      go_wp2_with fail
      refine (c_szChangeS _ cs _ HR.out HZ.out).mono ?_; rintro e w1 ⟨rfl, hb⟩; rw [HRM.out]
      have hs1 := hb.size
      have HB1 := hide hb; clear hb
      go_wp2_with fail
      refine (c_toChangeS _ cs _ (HR.out.below HB1.out) hn).mono ?_; rintro e w2 ⟨va, rfl, oa, hb⟩
      have hs2 := hb.size
      have Fa2 := hide (FrG.born oa); clear oa
      have HB2 := hide (bthen HB1.out (by omega) hb); clear hb HB1
      go_wp2_with fail
      refine (cs_App s _ cs p _ hs Fa2.out.rd HZ2.out HP.out).mono ?_; rintro e w3 ⟨rfl, hb⟩
      have hs3 := hb.size
      have Fa3 := hide (Fa2.out.below hb (by omega)); clear Fa2
      have HB3 := hide (bthen HB2.out (by omega) hb); clear hb HB2
      go_wp2_with fail
      refine (c_toChangeS _ cs _ (HR.out.below HB3.out) hn).mono ?_; rintro e w4 ⟨vx, rfl, ox, hb⟩
      have hs4 := hb.size
      have Fa4 := hide (Fa3.out.below hb (by omega)); clear Fa3
      have Fx4 := hide (FrG.born ox); clear ox
      have HB4 := hide (bthen HB3.out (by omega) hb); clear hb HB3
      go_wp2_with fail
      refine (ci_App s _ cs p _ hs Fx4.out.rd HZ2.out HP.out).mono ?_; rintro e w5 ⟨rfl, hb⟩
      have hs5 := hb.size
      have Fa5 := hide (Fa4.out.below hb (by omega)); clear Fa4
      have Fx5 := hide (Fx4.out.below hb (by omega)); clear Fx4
      have HB5 := hide (bthen HB4.out (by omega) hb); clear hb HB4
      go_wp2_with fail
      refine (c_toChangeS _ cs _ (HR.out.below HB5.out) hn).mono ?_; rintro e w6 ⟨vt, rfl, ot, hb⟩
      have hs6 := hb.size
      have Fa6 := hide (Fa5.out.below hb (by omega)); clear Fa5
      have Fx6 := hide (Fx5.out.below hb (by omega)); clear Fx5
      have Ft6 := hide (FrG.born ot); clear ot
      have HB6 := hide (bthen HB5.out (by omega) hb); clear hb HB5
      go_wp2_with fail
      refine (c_eqCS _ _ cs _ Fx6.out.rd Ft6.out.rd).mono ?_; rintro e w7 ⟨rfl, hb⟩
      have hs7 := hb.size
      have Fa7 := hide (Fa6.out.below hb (by omega)); clear Fa6
      have Fx7 := hide (Fx6.out.below hb (by omega)); clear Fx6
      have Ft7 := hide (Ft6.out.below hb (by omega)); clear Ft6
      have HB7 := hide (bthen HB6.out (by omega) hb); clear hb HB6
      go_wp2
      go_ret
      exact ⟨rfl, HB7.out⟩
  · go_enter Tryd.func6, Tryd.ntmps6
    go_wp2
    go_ret
    exact ⟨rfl, Below.refl _ _⟩
end Go.Proofs.YtjapidcbfnknkaaDoor
