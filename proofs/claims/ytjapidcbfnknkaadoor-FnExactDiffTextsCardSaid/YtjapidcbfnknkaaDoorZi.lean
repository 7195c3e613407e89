/- DiffTexts: the law. -/
import Derived.Test.YtjapidcbfnknkaaDoorZh
namespace Go.Proofs.YtjapidcbfnknkaaDoor
open Go.RowKit
theorem cs_DT (a b : ByteArray) (p : List Chg × Int) (w : World) (ha : a.size ≤ 1048576) (hb : b.size ≤ 1048576) (hp : dtF a b = p) : Calls Tryd.prog 20 #[.string a, .string b] w fun e w' => ∃ v', e = .returned (.tuple #[v', .int .i64 p.2]) ∧ OwC 80 w' w.heap.size v' p.1 ∧ Below w.heap.size w w' := by
  subst hp; exact c_sDT a b w ha hb
theorem ci_DT (a b : ByteArray) (p : List Chg × Int) (w : World) (ha : a.size ≤ 1048576) (hb : b.size ≤ 1048576) (hp : dtF a b = p) : Calls Tryd.prog 21 #[.string a, .string b] w fun e w' => ∃ v', e = .returned (.tuple #[v', .int .i64 p.2]) ∧ OwC 80 w' w.heap.size v' p.1 ∧ Below w.heap.size w w' := by
  subst hp; exact c_iDT a b w ha hb
set_option maxHeartbeats 1000000 in
set_option maxRecDepth 100000 in
theorem law_DiffTexts (a b : ByteArray) (w : World) : Calls Tryd.prog 5 #[.string a, .string b] w fun e w' => e = .returned (.bool true) ∧ Below w.heap.size w w' := by
  by_cases ha : a.size ≤ 1048576
  · by_cases hb : b.size ≤ 1048576
    · have hpl := dtF_len a b
      generalize hp : dtF a b = p at *
      have HP := hide hp; clear hp
      go_enter Tryd.func5, Tryd.ntmps5
      go_wp2_with fail
      refine (cs_DT a b p _ ha hb HP.out).mono ?_; rintro e w1 ⟨vw, rfl, ow, hb⟩
      have hs1 := hb.size
      have Fw1 := hide (FrG.born ow); clear ow
      have HB1 := hide hb; clear hb
      go_wp2_with fail
      refine (ci_DT a b p _ ha hb HP.out).mono ?_; rintro e w2 ⟨vg, rfl, og, hb⟩
      have hs2 := hb.size
      have Fw2 := hide (Fw1.out.below hb (by omega)); clear Fw1
      have Fg2 := hide (FrG.born og); clear og
      have HB2 := hide (bthen HB1.out (by omega) hb); clear hb HB1
      go_wp2_with fail
      refine (c_eqCS _ _ p.1 _ Fg2.out.rd Fw2.out.rd).mono ?_; rintro e w3 ⟨rfl, hb⟩
      have hs3 := hb.size
      have Fw3 := hide (Fw2.out.below hb (by omega)); clear Fw2
      have Fg3 := hide (Fg2.out.below hb (by omega)); clear Fg2
      have HB3 := hide (bthen HB2.out (by omega) hb); clear hb HB2
      go_wp2_with fail
      refine (c_markCS _ _ p.1 1 _ Fg3.out.1 (by omega) (by omega) (by omega)).mono ?_; rintro e w4 ⟨rfl, om, hg⟩
      have hs4 := hg.size
      have Fw4 := hide (Fw3.out.other Fg3.out hg (by omega)); clear Fw3
      have HB4 := hide (Fg3.out.below_mark HB3.out hg (by omega) (by omega)); clear HB3
      have Fg4 := hide (Fg3.out.mark om); clear Fg3 om hg
      go_wp2_with fail
      refine (c_heldCS _ p.1.length 1 _ Fg4.out.rd (by omega) (by omega)).mono ?_; rintro e w5 ⟨rfl, hb⟩
      have hs5 := hb.size
      have Fw5 := hide (Fw4.out.below hb (by omega)); clear Fw4
      have Fg5 := hide (Fg4.out.below hb (by omega)); clear Fg4
      have HB5 := hide (bthen HB4.out (by omega) hb); clear hb HB4
      go_wp2_with fail
      refine (ci_DT a b p _ ha hb HP.out).mono ?_; rintro e w6 ⟨vh, rfl, oh, hb⟩
      have hs6 := hb.size
      have Fw6 := hide (Fw5.out.below hb (by omega)); clear Fw5
      have Fg6 := hide (Fg5.out.below hb (by omega)); clear Fg5
      have Fh6 := hide (FrG.born oh); clear oh
      have HB6 := hide (bthen HB5.out (by omega) hb); clear hb HB5
      go_wp2_with fail
      refine (c_eqCS _ _ p.1 _ Fh6.out.rd Fw6.out.rd).mono ?_; rintro e w7 ⟨rfl, hb⟩
      have hs7 := hb.size
      have Fw7 := hide (Fw6.out.below hb (by omega)); clear Fw6
      have Fg7 := hide (Fg6.out.below hb (by omega)); clear Fg6
      have Fh7 := hide (Fh6.out.below hb (by omega)); clear Fh6
      have HB7 := hide (bthen HB6.out (by omega) hb); clear hb HB6
      go_wp2_with fail
      refine (c_heldCS _ p.1.length 1 _ Fg7.out.rd (by omega) (by omega)).mono ?_; rintro e w8 ⟨rfl, hb⟩
      have hs8 := hb.size
      have Fw8 := hide (Fw7.out.below hb (by omega)); clear Fw7
      have Fg8 := hide (Fg7.out.below hb (by omega)); clear Fg7
      have Fh8 := hide (Fh7.out.below hb (by omega)); clear Fh7
      have HB8 := hide (bthen HB7.out (by omega) hb); clear hb HB7
      go_wp2
      go_ret
      exact ⟨rfl, HB8.out⟩
    · go_enter Tryd.func5, Tryd.ntmps5
      go_wp2
      go_ret
      exact ⟨rfl, Below.refl _ _⟩
  · go_enter Tryd.func5, Tryd.ntmps5
    go_wp2
    go_ret
    exact ⟨rfl, Below.refl _ _⟩
end Go.Proofs.YtjapidcbfnknkaaDoor
