/- AppendSignal: the law. -/
import Derived.Test.YtopgjanpbfnlnaaGreatKb
import Derived.Test.YtopgjanpbfnlnaaGreatKc
import Derived.Test.YtopgjanpbfnlnaaGreatAc
namespace Go.Proofs.YtopgjanpbfnlnaaGreat
open Go.RowKit
set_option maxHeartbeats 800000 in
set_option maxRecDepth 100000 in
theorem law_AppendSignal (s : ByteArray) (v : Value) (xs : List Int) (w : World) (hr : RdI w v xs) : Calls Tryz.prog 4 #[.string s, v] w fun e w' => e = .returned (.bool true) ∧ Below w.heap.size w w' := by
  have HR := hide hr
  obtain ⟨A, cap, rfl, hl, hc, hx⟩ := hr.open_
  clear hr hx
  by_cases hs : s.size ≤ 1048576
  · by_cases hn : xs.length ≤ 1048576
    · generalize hp : apdF s xs = p at *
      have HP := hide hp; clear hp
      go_enter Tryz.func4, Tryz.ntmps4
      go_wp2_with fail
      refine (c_toInt64S _ xs _ HR.out hn).mono ?_; rintro e w1 ⟨va, rfl, oa, hb⟩
      have hs1 := hb.size
      have Fa1 := hide (Fr.born oa); clear oa
      have HB1 := hide hb; clear hb
      go_wp2_with fail
      refine (c_sAppendSignal s _ xs _ hs Fa1.out.rd hn).mono ?_; rintro e w2 ⟨rfl, hb⟩
      have hs2 := hb.size
      have Fa2 := hide (Fa1.out.below hb (by omega)); clear Fa1
      have HB2 := hide (bthen HB1.out (by omega) hb); clear hb HB1
      rw [HP.out]
      go_wp2_with fail
      refine (c_toInt64S _ xs _ (HR.out.below HB2.out) hn).mono ?_; rintro e w3 ⟨vx, rfl, ox, hb⟩
      have hs3 := hb.size
      have Fx3 := hide (Fr.born ox); clear ox
      have HB3 := hide (bthen HB2.out (by omega) hb); clear hb HB2
      go_wp2_with fail
      refine (c_iAppendSignal s _ xs _ hs Fx3.out.rd).mono ?_; rintro e w4 ⟨rfl, hb⟩
      have hs4 := hb.size
      have Fx4 := hide (Fx3.out.below hb (by omega)); clear Fx3
      have HB4 := hide (bthen HB3.out (by omega) hb); clear hb HB3
      rw [HP.out]
      go_wp2_with fail
      refine (c_toInt64S _ xs _ (HR.out.below HB4.out) hn).mono ?_; rintro e w5 ⟨vb, rfl, ob, hb⟩
      have hs5 := hb.size
      have Fx5 := hide (Fx4.out.below hb (by omega)); clear Fx4
      have Fb5 := hide (Fr.born ob); clear ob
      have HB5 := hide (bthen HB4.out (by omega) hb); clear hb HB4
      go_wp2_with fail
      refine (c_eqI _ _ xs _ Fx5.out.rd Fb5.out.rd).mono ?_; rintro e w6 ⟨rfl, hd⟩
      have hs6 := dr_size hd
      have HS6 := hide hs6; replace hs6 : w5.heap.size ≤ w6.heap.size := by omega
      have ht6 : w6.heap.size ≤ w5.heap.size := by have := HS6.out; omega
      have Fx6 := hide (Fx5.out.dr hd); clear Fx5
      have Fb6 := hide (Fb5.out.dr hd); clear Fb5
      have HB6 := hide (Dr.below HB5.out hd); clear hd HB5
      go_wp2
      go_ret
      exact ⟨rfl, HB6.out⟩
    · go_enter Tryz.func4, Tryz.ntmps4
      go_wp2
      go_ret
      exact ⟨rfl, Below.refl _ _⟩
  · go_enter Tryz.func4, Tryz.ntmps4
    go_wp2
    go_ret
    exact ⟨rfl, Below.refl _ _⟩
end Go.Proofs.YtopgjanpbfnlnaaGreat
