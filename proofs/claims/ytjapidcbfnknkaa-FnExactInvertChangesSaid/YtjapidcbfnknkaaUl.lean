/- InvertChanges: the law. -/
import Derived.Test.YtjapidcbfnknkaaUk
namespace Go.Proofs.Ytjapidcbfnknkaa
open Go.RowKit
theorem cs_Inv (v : Value) (cs : List Chg) (p : List Chg × Int) (w : World) (hr : RdC w v cs) (hsz : ∀ c ∈ cs, GoodC c) (hp : invF cs = p) : Calls Try.prog 12 #[v] w fun e w' => ∃ v', e = .returned (.tuple #[v', .int .i64 p.2]) ∧ OwC 55 w' w.heap.size v' p.1 ∧ Below w.heap.size w w' := by
  subst hp; exact c_sInvert v cs w hr hsz
theorem ci_Inv (v : Value) (cs : List Chg) (p : List Chg × Int) (w : World) (hr : RdC w v cs) (hp : invF cs = p) : Calls Try.prog 13 #[v] w fun e w' => ∃ v', e = .returned (.tuple #[v', .int .i64 p.2]) ∧ OwC 55 w' w.heap.size v' p.1 ∧ Below w.heap.size w w' := by
  subst hp; exact c_iInvert v cs w hr
set_option maxHeartbeats 1000000 in
set_option maxRecDepth 100000 in
theorem law_InvertChanges (v : Value) (cs : List Chg) (w : World) (hr : RdC w v cs) (hsz : ∀ c ∈ cs, GoodC c) : Calls Try.prog 4 #[v] w fun e w' => e = .returned (.bool true) ∧ Below w.heap.size w w' := by
  have hroom : (if 1048576 < cs.length then (-1 : Int) else roomF (1048576 - cs.length) cs) < 0 ∨ (0 ≤ (if 1048576 < cs.length then (-1 : Int) else roomF (1048576 - cs.length) cs) ∧ cs.length ≤ 1048576) := by
    split <;> omega
  have hpl : (invF cs).1.length ≤ cs.length := by
    unfold invF; split
    · split
      · simp [invGo_len]
      · simp
    · simp
  generalize hR : (if 1048576 < cs.length then (-1 : Int) else roomF (1048576 - cs.length) cs) = R at *
  generalize hp : invF cs = p at *
  have HP := hide hp; have HRM := hide hR; have HR := hide hr; have HZ := hide hsz; clear hR hr hsz hp
  rcases hroom with hneg | ⟨hpos, hn⟩
  · go_enter Try.func4, Try.ntmps4
    go_wp2_with (go_at_call 7; refine (c_szChangeS _ cs _ HR.out HZ.out).mono ?_; rintro e w1 ⟨rfl, hb1⟩; rw [HRM.out])
    go_ret
    exact ⟨rfl, hb1⟩
  · have hnn : ¬ R < 0 := by omega
    go_enter Try.func4, Try.ntmps4
    go_wp2_with fail
    refine (c_szChangeS _ cs _ HR.out HZ.out).mono ?_; rintro e w1 ⟨rfl, hb⟩; rw [HRM.out]
    have hs1 := hb.size
    have HB1 := hide hb; clear hb
    go_wp2_with fail
    refine (c_toChangeS _ cs _ (HR.out.below HB1.out) hn).mono ?_; rintro e w2 ⟨va, rfl, oa, hb⟩
    have hs2 := hb.size
    have Fa2 := hide (FrG.born oa); clear oa
    have HB2 := hide (bthen HB1.out (by omega) hb); clear hb HB1
    go_wp2_with fail
    refine (cs_Inv _ cs p _ Fa2.out.rd HZ.out HP.out).mono ?_; rintro e w3 ⟨vw, rfl, ow, hb⟩
    have hs3 := hb.size
    have Fa3 := hide (Fa2.out.below hb (by omega)); clear Fa2
    have Fw3 := hide (FrG.born ow); clear ow
    have HB3 := hide (bthen HB2.out (by omega) hb); clear hb HB2
    go_wp2_with fail
    refine (c_toChangeS _ cs _ (HR.out.below HB3.out) hn).mono ?_; rintro e w4 ⟨vx, rfl, ox, hb⟩
    have hs4 := hb.size
    have Fa4 := hide (Fa3.out.below hb (by omega)); clear Fa3
    have Fw4 := hide (Fw3.out.below hb (by omega)); clear Fw3
    have Fx4 := hide (FrG.born ox); clear ox
    have HB4 := hide (bthen HB3.out (by omega) hb); clear hb HB3
    go_wp2_with fail
    refine (ci_Inv _ cs p _ Fx4.out.rd HP.out).mono ?_; rintro e w5 ⟨vg, rfl, og, hb⟩
    have hs5 := hb.size
    have Fa5 := hide (Fa4.out.below hb (by omega)); clear Fa4
    have Fw5 := hide (Fw4.out.below hb (by omega)); clear Fw4
    have Fx5 := hide (Fx4.out.below hb (by omega)); clear Fx4
    have Fg5 := hide (FrG.born og); clear og
    have HB5 := hide (bthen HB4.out (by omega) hb); clear hb HB4
    go_wp2_with fail
    refine (c_eqCS _ _ p.1 _ Fg5.out.rd Fw5.out.rd).mono ?_; rintro e w6 ⟨rfl, hb⟩
    have hs6 := hb.size
    have Fa6 := hide (Fa5.out.below hb (by omega)); clear Fa5
    have Fw6 := hide (Fw5.out.below hb (by omega)); clear Fw5
    have Fx6 := hide (Fx5.out.below hb (by omega)); clear Fx5
    have Fg6 := hide (Fg5.out.below hb (by omega)); clear Fg5
    have HB6 := hide (bthen HB5.out (by omega) hb); clear hb HB5
    go_wp2_with fail
    refine (c_toChangeS _ cs _ (HR.out.below HB6.out) hn).mono ?_; rintro e w7 ⟨vt, rfl, ot, hb⟩
    have hs7 := hb.size
    have Fa7 := hide (Fa6.out.below hb (by omega)); clear Fa6
    have Fw7 := hide (Fw6.out.below hb (by omega)); clear Fw6
    have Fx7 := hide (Fx6.out.below hb (by omega)); clear Fx6
    have Fg7 := hide (Fg6.out.below hb (by omega)); clear Fg6
    have Ft7 := hide (FrG.born ot); clear ot
    have HB7 := hide (bthen HB6.out (by omega) hb); clear hb HB6
    go_wp2_with fail
    refine (c_eqCS _ _ cs _ Fx7.out.rd Ft7.out.rd).mono ?_; rintro e w8 ⟨rfl, hb⟩
    have hs8 := hb.size
    have Fa8 := hide (Fa7.out.below hb (by omega)); clear Fa7
    have Fw8 := hide (Fw7.out.below hb (by omega)); clear Fw7
    have Fx8 := hide (Fx7.out.below hb (by omega)); clear Fx7
    have Fg8 := hide (Fg7.out.below hb (by omega)); clear Fg7
    have Ft8 := hide (Ft7.out.below hb (by omega)); clear Ft7
    have HB8 := hide (bthen HB7.out (by omega) hb); clear hb HB7
    go_wp2_with fail
    refine (c_markCS _ _ cs 1 _ Fx8.out.1 (by omega) (by omega) (by omega)).mono ?_; rintro e w9 ⟨rfl, om, hg⟩
    have hs9 := hg.size
    have Fa9 := hide (Fa8.out.other Fx8.out hg (by omega)); clear Fa8
    have Fw9 := hide (Fw8.out.other Fx8.out hg (by omega)); clear Fw8
    have Fg9 := hide (Fg8.out.other Fx8.out hg (by omega)); clear Fg8
    have Ft9 := hide (Ft8.out.other Fx8.out hg (by omega)); clear Ft8
    have HB9 := hide (Fx8.out.below_mark HB8.out hg (by omega) (by omega)); clear HB8
    have Fx9 := hide (Fx8.out.mark om); clear Fx8 om hg
    go_wp2_with fail
    refine (c_eqCS _ _ p.1 _ Fg9.out.rd Fw9.out.rd).mono ?_; rintro e w10 ⟨rfl, hb⟩
    have hs10 := hb.size
    have Fa10 := hide (Fa9.out.below hb (by omega)); clear Fa9
    have Fw10 := hide (Fw9.out.below hb (by omega)); clear Fw9
    have Fx10 := hide (Fx9.out.below hb (by omega)); clear Fx9
    have Fg10 := hide (Fg9.out.below hb (by omega)); clear Fg9
    have Ft10 := hide (Ft9.out.below hb (by omega)); clear Ft9
    have HB10 := hide (bthen HB9.out (by omega) hb); clear hb HB9
    go_wp2_with fail
    refine (c_markCS _ _ p.1 1 _ Fg10.out.1 (by omega) (by omega) (by omega)).mono ?_; rintro e w11 ⟨rfl, om, hg⟩
    have hs11 := hg.size
    have Fa11 := hide (Fa10.out.other Fg10.out hg (by omega)); clear Fa10
    have Fw11 := hide (Fw10.out.other Fg10.out hg (by omega)); clear Fw10
    have Fx11 := hide (Fx10.out.other Fg10.out hg (by omega)); clear Fx10
    have Ft11 := hide (Ft10.out.other Fg10.out hg (by omega)); clear Ft10
    have HB11 := hide (Fg10.out.below_mark HB10.out hg (by omega) (by omega)); clear HB10
    have Fg11 := hide (Fg10.out.mark om); clear Fg10 om hg
    go_wp2_with fail
    refine (c_heldCS _ p.1.length 1 _ Fg11.out.rd (by omega) (by omega)).mono ?_; rintro e w12 ⟨rfl, hb⟩
    have hs12 := hb.size
    have Fa12 := hide (Fa11.out.below hb (by omega)); clear Fa11
    have Fw12 := hide (Fw11.out.below hb (by omega)); clear Fw11
    have Fx12 := hide (Fx11.out.below hb (by omega)); clear Fx11
    have Fg12 := hide (Fg11.out.below hb (by omega)); clear Fg11
    have Ft12 := hide (Ft11.out.below hb (by omega)); clear Ft11
    have HB12 := hide (bthen HB11.out (by omega) hb); clear hb HB11
    go_wp2_with fail
    refine (c_toChangeS _ cs _ (HR.out.below HB12.out) hn).mono ?_; rintro e w13 ⟨vu, rfl, ou, hb⟩
    have hs13 := hb.size
    have Fa13 := hide (Fa12.out.below hb (by omega)); clear Fa12
    have Fw13 := hide (Fw12.out.below hb (by omega)); clear Fw12
    have Fx13 := hide (Fx12.out.below hb (by omega)); clear Fx12
    have Fg13 := hide (Fg12.out.below hb (by omega)); clear Fg12
    have Ft13 := hide (Ft12.out.below hb (by omega)); clear Ft12
    have Fu13 := hide (FrG.born ou); clear ou
    have HB13 := hide (bthen HB12.out (by omega) hb); clear hb HB12
    go_wp2_with fail
    refine (ci_Inv _ cs p _ Fu13.out.rd HP.out).mono ?_; rintro e w14 ⟨vh, rfl, oh, hb⟩
    have hs14 := hb.size
    have Fa14 := hide (Fa13.out.below hb (by omega)); clear Fa13
    have Fw14 := hide (Fw13.out.below hb (by omega)); clear Fw13
    have Fx14 := hide (Fx13.out.below hb (by omega)); clear Fx13
    have Fg14 := hide (Fg13.out.below hb (by omega)); clear Fg13
    have Ft14 := hide (Ft13.out.below hb (by omega)); clear Ft13
    have Fu14 := hide (Fu13.out.below hb (by omega)); clear Fu13
    have Fh14 := hide (FrG.born oh); clear oh
    have HB14 := hide (bthen HB13.out (by omega) hb); clear hb HB13
    go_wp2_with fail
    refine (c_eqCS _ _ p.1 _ Fh14.out.rd Fw14.out.rd).mono ?_; rintro e w15 ⟨rfl, hb⟩
    have hs15 := hb.size
    have Fa15 := hide (Fa14.out.below hb (by omega)); clear Fa14
    have Fw15 := hide (Fw14.out.below hb (by omega)); clear Fw14
    have Fx15 := hide (Fx14.out.below hb (by omega)); clear Fx14
    have Fg15 := hide (Fg14.out.below hb (by omega)); clear Fg14
    have Ft15 := hide (Ft14.out.below hb (by omega)); clear Ft14
    have Fu15 := hide (Fu14.out.below hb (by omega)); clear Fu14
    have Fh15 := hide (Fh14.out.below hb (by omega)); clear Fh14
    have HB15 := hide (bthen HB14.out (by omega) hb); clear hb HB14
    go_wp2_with fail
    refine (c_heldCS _ p.1.length 1 _ Fg15.out.rd (by omega) (by omega)).mono ?_; rintro e w16 ⟨rfl, hb⟩
    have hs16 := hb.size
    have Fa16 := hide (Fa15.out.below hb (by omega)); clear Fa15
    have Fw16 := hide (Fw15.out.below hb (by omega)); clear Fw15
    have Fx16 := hide (Fx15.out.below hb (by omega)); clear Fx15
    have Fg16 := hide (Fg15.out.below hb (by omega)); clear Fg15
    have Ft16 := hide (Ft15.out.below hb (by omega)); clear Ft15
    have Fu16 := hide (Fu15.out.below hb (by omega)); clear Fu15
    have Fh16 := hide (Fh15.out.below hb (by omega)); clear Fh15
    have HB16 := hide (bthen HB15.out (by omega) hb); clear hb HB15
    go_wp2
    go_ret
    exact ⟨rfl, HB16.out⟩
end Go.Proofs.Ytjapidcbfnknkaa
