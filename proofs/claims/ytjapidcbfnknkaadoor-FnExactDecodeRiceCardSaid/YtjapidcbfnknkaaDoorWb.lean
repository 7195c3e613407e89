/- DecodeRice: the law. -/
import Derived.Test.YtjapidcbfnknkaaDoorWa
import Derived.Test.YtjapidcbfnknkaaDoorAc
namespace Go.Proofs.YtjapidcbfnknkaaDoor
open Go.RowKit
set_option maxHeartbeats 1000000 in
set_option maxRecDepth 100000 in
theorem law_DecodeRice (s : ByteArray) (n k : Int) (w : World) (hn : -9223372036854775808 ≤ n ∧ n ≤ 9223372036854775807) (hk : -9223372036854775808 ≤ k ∧ k ≤ 9223372036854775807) : Calls Tryd.prog 7 #[.string s, .int .i64 n, .int .i64 k] w fun e w' => e = .returned (.bool true) ∧ Below w.heap.size w w' := by
  by_cases hs : s.size ≤ 1048576
  · have hpl := ricP_len s n k
    generalize hp : ricP s n k = p at *
    have HP := hide hp; clear hp
    go_enter Tryd.func7, Tryd.ntmps7
    go_wp2_with fail
    refine (cs_DR s n k p _ hs hn hk HP.out).mono ?_; rintro e w1 ⟨vw, rfl, ow, hb⟩
    have hs1 := hb.size
    have Fw1 := hide (Fr.born ow); clear ow
    have HB1 := hide hb; clear hb
    go_wp2_with fail
    refine (ci_DR s n k p _ hs hn hk HP.out).mono ?_; rintro e w2 ⟨vg, rfl, og, hb⟩
    have hs2 := hb.size
    have Fw2 := hide (Fw1.out.below hb (by omega)); clear Fw1
    have Fg2 := hide (Fr.born og); clear og
    have HB2 := hide (bthen HB1.out (by omega) hb); clear hb HB1
    go_wp2_with fail
    refine (c_eqI _ _ p.1 _ Fg2.out.rd Fw2.out.rd).mono ?_; rintro e w3 ⟨rfl, hd⟩
    have hs3 := dr_size hd
    have HS3 := hide hs3; replace hs3 : w2.heap.size ≤ w3.heap.size := by omega
    have ht3 : w3.heap.size ≤ w2.heap.size := by have := HS3.out; omega
    have Fw3 := hide (Fw2.out.dr hd); clear Fw2
    have Fg3 := hide (Fg2.out.dr hd); clear Fg2
    have HB3 := hide (Dr.below HB2.out hd); clear hd HB2
    go_wp2_with fail
    refine (c_markInt64S _ _ _ p.1 1 _ Fg3.out.1 (by omega)).mono ?_; rintro e w4 ⟨rfl, om, hg⟩
    have hs4 := hg.size
    have Fw4 := hide (Fw3.out.other Fg3.out hg (by omega)); clear Fw3
    have HB4 := hide (Fg3.out.below_mark HB3.out hg (by omega) (by omega)); clear HB3
    have Fg4 := hide (Fg3.out.mark om); clear Fg3 om hg
    go_wp2_with fail
    refine (c_heldI _ p.1.length 1 _ Fg4.out.rd (by omega)).mono ?_; rintro e _ ⟨rfl, rfl⟩
    go_wp2_with fail
    refine (ci_DR s n k p _ hs hn hk HP.out).mono ?_; rintro e w5 ⟨vh, rfl, oh, hb⟩
    have hs5 := hb.size
    have Fw5 := hide (Fw4.out.below hb (by omega)); clear Fw4
    have Fg5 := hide (Fg4.out.below hb (by omega)); clear Fg4
    have Fh5 := hide (Fr.born oh); clear oh
    have HB5 := hide (bthen HB4.out (by omega) hb); clear hb HB4
    go_wp2_with fail
    refine (c_eqI _ _ p.1 _ Fh5.out.rd Fw5.out.rd).mono ?_; rintro e w6 ⟨rfl, hd⟩
    have hs6 := dr_size hd
    have HS6 := hide hs6; replace hs6 : w5.heap.size ≤ w6.heap.size := by omega
    have ht6 : w6.heap.size ≤ w5.heap.size := by have := HS6.out; omega
    have Fw6 := hide (Fw5.out.dr hd); clear Fw5
    have Fg6 := hide (Fg5.out.dr hd); clear Fg5
    have Fh6 := hide (Fh5.out.dr hd); clear Fh5
    have HB6 := hide (Dr.below HB5.out hd); clear hd HB5
    go_wp2_with fail
    refine (c_heldI _ p.1.length 1 _ Fg6.out.rd (by omega)).mono ?_; rintro e _ ⟨rfl, rfl⟩
    go_wp2
    go_ret
    exact ⟨rfl, HB6.out⟩
  · go_enter Tryd.func7, Tryd.ntmps7
    go_wp2
    go_ret
    exact ⟨rfl, Below.refl _ _⟩
end Go.Proofs.YtjapidcbfnknkaaDoor
