/- The law FnExactPredictSignal. -/
import Derived.Test.YtopgjanpbfnlnaaAe
namespace Go.Proofs.Ytopgjanpbfnlnaa
open Go.RowKit
theorem c_eqI (v1 v2 : Value) (xs : List Int) (w : World) (hr1 : RdI w v1 xs) (hr2 : RdI w v2 xs) : Calls Try.prog 24 #[v1, v2] w fun e w' => e = .returned (.bool true) ∧ Dr w w' :=
  (c_eqInt64S v1 v2 xs xs w hr1 hr2).mono fun e w' ⟨h1, h2⟩ => ⟨by rw [h1]; simp, h2⟩
theorem c_heldI (v : Value) (n m : Nat) (w : World) (hr : RdI w v (marks m n)) (hm : m + n ≤ 4611686018427387904) :
    Calls Try.prog 26 #[v, .int .i64 m] w fun e w' => e = .returned (.int .i64 ((m + n : Nat) : Int)) ∧ w = w' :=
  (c_heldInt64S v (marks m n) m w hr (by rw [length_marks]; exact hm)).mono fun e w' ⟨h1, h2⟩ => ⟨by rw [h1, heldF, length_marks, if_pos rfl], h2⟩
theorem length_predSigF (xs : List Int) (m : Int) : (predSigF xs m).1.length ≤ xs.length := by
  unfold predSigF
  split
  · split
    · simp [length_predictF]
    · simp
  · simp
set_option maxHeartbeats 2000000 in
set_option maxRecDepth 100000 in
theorem law_PredictSignal (v : Value) (xs : List Int) (m : Int) (w : World) (hr : RdI w v xs) : Calls Try.prog 4 #[v, .int .i64 m] w fun e w' => e = .returned (.bool true) ∧ Below w.heap.size w w' := by
  have HR := hide hr
  obtain ⟨A, cap, rfl, hl, hc, hx⟩ := hr.open_
  clear hr hx
  by_cases hn : xs.length ≤ 1048576
  · generalize hp : predSigF xs m = p at *
    have hlp : p.1.length ≤ xs.length := by rw [← hp]; exact length_predSigF xs m
    have HP := hide hp; clear hp
    go_enter Try.func4, Try.ntmps4
    go_wp2_with fail
    refine (c_toInt64S _ xs _ HR.out hn).mono ?_; rintro e w1 ⟨va, rfl, oa, hb⟩
    have hs1 := hb.size
    have Fa1 := hide (Fr.born oa); clear oa
    have HB1 := hide hb; clear hb
    go_wp2_with fail
    refine (c_sPredictSignal _ xs _ _ Fa1.out.rd hn).mono ?_; rw [HP.out]; rintro e w2 ⟨vw, rfl, ow, hb⟩
    have hs2 := hb.size
    have Fa2 := hide (Fa1.out.below hb (by omega)); clear Fa1
    have Fw2 := hide (Fr.born ow); clear ow
    have HB2 := hide (bthen HB1.out (by omega) hb); clear hb HB1
    go_wp2_with fail
    refine (c_toInt64S _ xs _ (HR.out.below HB2.out) hn).mono ?_; rintro e w3 ⟨vx, rfl, ox, hb⟩
    have hs3 := hb.size
    have Fw3 := hide (Fw2.out.below hb (by omega)); clear Fw2
    have Fx3 := hide (Fr.born ox); clear ox
    have HB3 := hide (bthen HB2.out (by omega) hb); clear hb HB2
    go_wp2_with fail
    refine (c_iPredictSignal _ xs _ _ Fx3.out.rd hn).mono ?_; rw [HP.out]; rintro e w4 ⟨vg, rfl, og, hb⟩
    have hs4 := hb.size
    have Fw4 := hide (Fw3.out.below hb (by omega)); clear Fw3
    have Fx4 := hide (Fx3.out.below hb (by omega)); clear Fx3
    have Fg4 := hide (Fr.born og); clear og
    have HB4 := hide (bthen HB3.out (by omega) hb); clear hb HB3
    go_wp2_with fail
    refine (c_eqI _ _ p.1 _ Fg4.out.rd Fw4.out.rd).mono ?_; rintro e w5 ⟨rfl, hd⟩
    have hs5 := dr_size hd
    have HS5 := hide hs5; replace hs5 : w4.heap.size ≤ w5.heap.size := by omega
    have ht5 : w5.heap.size ≤ w4.heap.size := by have := HS5.out; omega
    have Fw5 := hide (Fw4.out.dr hd); clear Fw4
    have Fx5 := hide (Fx4.out.dr hd); clear Fx4
    have Fg5 := hide (Fg4.out.dr hd); clear Fg4
    have HB5 := hide (Dr.below HB4.out hd); clear hd HB4
    go_wp2_with fail
    refine (c_toInt64S _ xs _ (HR.out.below HB5.out) hn).mono ?_; rintro e w6 ⟨vb, rfl, ob, hb⟩
    have hs6 := hb.size
    have Fw6 := hide (Fw5.out.below hb (by omega)); clear Fw5
    have Fx6 := hide (Fx5.out.below hb (by omega)); clear Fx5
    have Fg6 := hide (Fg5.out.below hb (by omega)); clear Fg5
    have Fb6 := hide (Fr.born ob); clear ob
    have HB6 := hide (bthen HB5.out (by omega) hb); clear hb HB5
    go_wp2_with fail
    refine (c_eqI _ _ xs _ Fx6.out.rd Fb6.out.rd).mono ?_; rintro e w7 ⟨rfl, hd⟩
    have hs7 := dr_size hd
    have HS7 := hide hs7; replace hs7 : w6.heap.size ≤ w7.heap.size := by omega
    have ht7 : w7.heap.size ≤ w6.heap.size := by have := HS7.out; omega
    have Fw7 := hide (Fw6.out.dr hd); clear Fw6
    have Fx7 := hide (Fx6.out.dr hd); clear Fx6
    have Fg7 := hide (Fg6.out.dr hd); clear Fg6
    have Fb7 := hide (Fb6.out.dr hd); clear Fb6
    have HB7 := hide (Dr.below HB6.out hd); clear hd HB6
    go_wp2_with fail
    refine (c_markInt64S _ _ _ xs 1 _ Fx7.out.1 (by omega)).mono ?_; rintro e w8 ⟨rfl, om, hg⟩
    have hs8 := hg.size
    have Fw8 := hide (Fw7.out.other Fx7.out hg (by omega)); clear Fw7
    have Fg8 := hide (Fg7.out.other Fx7.out hg (by omega)); clear Fg7
    have HB8 := hide (Fx7.out.below_mark HB7.out hg (by omega) (by omega)); clear HB7
    have Fx8 := hide (Fx7.out.mark om); clear Fx7 om hg
    go_wp2_with fail
    refine (c_eqI _ _ p.1 _ Fg8.out.rd Fw8.out.rd).mono ?_; rintro e w9 ⟨rfl, hd⟩
    have hs9 := dr_size hd
    have HS9 := hide hs9; replace hs9 : w8.heap.size ≤ w9.heap.size := by omega
    have ht9 : w9.heap.size ≤ w8.heap.size := by have := HS9.out; omega
    have Fw9 := hide (Fw8.out.dr hd); clear Fw8
    have Fx9 := hide (Fx8.out.dr hd); clear Fx8
    have Fg9 := hide (Fg8.out.dr hd); clear Fg8
    have HB9 := hide (Dr.below HB8.out hd); clear hd HB8
    go_wp2_with fail
    refine (c_markInt64S _ _ _ p.1 1 _ Fg9.out.1 (by omega)).mono ?_; rintro e w10 ⟨rfl, om, hg⟩
    have hs10 := hg.size
    have Fw10 := hide (Fw9.out.other Fg9.out hg (by omega)); clear Fw9
    have Fx10 := hide (Fx9.out.other Fg9.out hg (by omega)); clear Fx9
    have HB10 := hide (Fg9.out.below_mark HB9.out hg (by omega) (by omega)); clear HB9
    have Fg10 := hide (Fg9.out.mark om); clear Fg9 om hg
    go_wp2_with fail
    refine (c_heldI _ p.1.length 1 _ Fg10.out.rd (by omega)).mono ?_; rintro e _ ⟨rfl, rfl⟩
    go_wp2_with fail
    refine (c_toInt64S _ xs _ (HR.out.below HB10.out) hn).mono ?_; rintro e w11 ⟨vc, rfl, oc, hb⟩
    have hs11 := hb.size
    have Fw11 := hide (Fw10.out.below hb (by omega)); clear Fw10
    have Fx11 := hide (Fx10.out.below hb (by omega)); clear Fx10
    have Fg11 := hide (Fg10.out.below hb (by omega)); clear Fg10
    have Fc11 := hide (Fr.born oc); clear oc
    have HB11 := hide (bthen HB10.out (by omega) hb); clear hb HB10
    go_wp2_with fail
    refine (c_iPredictSignal _ xs _ _ Fc11.out.rd hn).mono ?_; rw [HP.out]; rintro e w12 ⟨vh, rfl, oh, hb⟩
    have hs12 := hb.size
    have Fw12 := hide (Fw11.out.below hb (by omega)); clear Fw11
    have Fx12 := hide (Fx11.out.below hb (by omega)); clear Fx11
    have Fg12 := hide (Fg11.out.below hb (by omega)); clear Fg11
    have Fc12 := hide (Fc11.out.below hb (by omega)); clear Fc11
    have Fh12 := hide (Fr.born oh); clear oh
    have HB12 := hide (bthen HB11.out (by omega) hb); clear hb HB11
    go_wp2_with fail
    refine (c_eqI _ _ p.1 _ Fh12.out.rd Fw12.out.rd).mono ?_; rintro e w13 ⟨rfl, hd⟩
    have hs13 := dr_size hd
    have HS13 := hide hs13; replace hs13 : w12.heap.size ≤ w13.heap.size := by omega
    have ht13 : w13.heap.size ≤ w12.heap.size := by have := HS13.out; omega
    have Fw13 := hide (Fw12.out.dr hd); clear Fw12
    have Fx13 := hide (Fx12.out.dr hd); clear Fx12
    have Fg13 := hide (Fg12.out.dr hd); clear Fg12
    have Fh13 := hide (Fh12.out.dr hd); clear Fh12
    have HB13 := hide (Dr.below HB12.out hd); clear hd HB12
    go_wp2_with fail
    refine (c_heldI _ p.1.length 1 _ Fg13.out.rd (by omega)).mono ?_; rintro e _ ⟨rfl, rfl⟩
    go_wp2
    go_ret
    exact ⟨rfl, HB13.out⟩
  · go_enter Try.func4, Try.ntmps4
    go_wp2
    go_ret
    exact ⟨rfl, Below.refl _ _⟩
end Go.Proofs.Ytopgjanpbfnlnaa
