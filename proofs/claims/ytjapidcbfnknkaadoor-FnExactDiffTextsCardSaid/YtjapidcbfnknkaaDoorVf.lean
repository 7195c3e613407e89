/- LinesOf: the law. -/
import Derived.Test.YtjapidcbfnknkaaDoorVe
namespace Go.Proofs.YtjapidcbfnknkaaDoor
open Go.RowKit
theorem cs_L (s : ByteArray) (T : Bool) (ls : List ByteArray) (w : World) (hs : s.size ≤ 1048576) (hp : textB s = T ∧ (if textB s then linesF s else []) = ls) : Calls Tryd.prog 12 #[.string s] w fun e w' => ∃ v, e = .returned (.tuple #[v, .bool T]) ∧ OwS 9 w' w.heap.size v ls ∧ Below w.heap.size w w' := by
  obtain ⟨h1, h2⟩ := hp
  have := c_sLines s w hs
  rw [h1] at this h2
  rw [h2] at this
  exact this
theorem ci_L (s : ByteArray) (T : Bool) (ls : List ByteArray) (w : World) (hs : s.size ≤ 1048576) (hp : textB s = T ∧ (if textB s then linesF s else []) = ls) : Calls Tryd.prog 13 #[.string s] w fun e w' => ∃ v, e = .returned (.tuple #[v, .bool T]) ∧ OwS 9 w' w.heap.size v ls ∧ Below w.heap.size w w' := by
  obtain ⟨h1, h2⟩ := hp
  have := c_iLines s w hs
  rw [h1] at this h2
  rw [h2] at this
  exact this
set_option maxHeartbeats 1000000 in
set_option maxRecDepth 100000 in
theorem law_LinesOf (s : ByteArray) (w : World) : Calls Tryd.prog 3 #[.string s] w fun e w' => e = .returned (.bool true) ∧ Below w.heap.size w w' := by
  by_cases hs : s.size ≤ 1048576
  · have hlen : (if textB s then linesF s else []).length ≤ 1048576 := by
      split
      · have := length_linesF s; have := count_le s; omega
      · simp
    generalize hT : textB s = T at *
    generalize hL : (if T then linesF s else []) = ls at *
    have HT := hide (show textB s = T ∧ (if textB s then linesF s else []) = ls from ⟨hT, by rw [hT, hL]⟩); clear hT hL
    cases T
    all_goals
      go_enter Tryd.func3, Tryd.ntmps3
      go_wp2_with fail
      refine (cs_L s _ ls _ hs HT.out).mono ?_; rintro e w1 ⟨vw, rfl, ow, hb⟩
      have hs1 := hb.size
      have Fw1 := hide (FrG.born ow); clear ow
      have HB1 := hide hb; clear hb
      go_wp2_with fail
      refine (ci_L s _ ls _ hs HT.out).mono ?_; rintro e w2 ⟨vg, rfl, og, hb⟩
      have hs2 := hb.size
      have Fw2 := hide (Fw1.out.below hb (by omega)); clear Fw1
      have Fg2 := hide (FrG.born og); clear og
      have HB2 := hide (bthen HB1.out (by omega) hb); clear hb HB1
      go_wp2_with fail
      refine (c_eqSS _ _ ls _ Fg2.out.rd Fw2.out.rd).mono ?_; rintro e w3 ⟨rfl, hb⟩
      have hs3 := hb.size
      have Fw3 := hide (Fw2.out.below hb (by omega)); clear Fw2
      have Fg3 := hide (Fg2.out.below hb (by omega)); clear Fg2
      have HB3 := hide (bthen HB2.out (by omega) hb); clear hb HB2
      go_wp2_with fail
      refine (c_markStringS _ _ ls 1 _ Fg3.out.1 (by omega) (by omega) (by omega)).mono ?_; rintro e w4 ⟨rfl, om, hb⟩
      have hs4 := hb.size
      have Fw4 := hide (Fw3.out.below hb (by omega)); clear Fw3
      have Fg4 := hide (Fg3.out.mark om); clear Fg3 om
      have HB4 := hide (HB3.out.trans (hb.mono (by omega))); clear hb HB3
      go_wp2_with fail
      refine (c_heldSS _ ls.length 1 _ Fg4.out.rd (by omega) (by omega)).mono ?_; rintro e w5 ⟨rfl, hb⟩
      have hs5 := hb.size
      have Fw5 := hide (Fw4.out.below hb (by omega)); clear Fw4
      have Fg5 := hide (Fg4.out.below hb (by omega)); clear Fg4
      have HB5 := hide (bthen HB4.out (by omega) hb); clear hb HB4
      go_wp2_with fail
      refine (ci_L s _ ls _ hs HT.out).mono ?_; rintro e w6 ⟨vh, rfl, oh, hb⟩
      have hs6 := hb.size
      have Fw6 := hide (Fw5.out.below hb (by omega)); clear Fw5
      have Fg6 := hide (Fg5.out.below hb (by omega)); clear Fg5
      have Fh6 := hide (FrG.born oh); clear oh
      have HB6 := hide (bthen HB5.out (by omega) hb); clear hb HB5
      go_wp2_with fail
      refine (c_eqSS _ _ ls _ Fh6.out.rd Fw6.out.rd).mono ?_; rintro e w7 ⟨rfl, hb⟩
      have hs7 := hb.size
      have Fw7 := hide (Fw6.out.below hb (by omega)); clear Fw6
      have Fg7 := hide (Fg6.out.below hb (by omega)); clear Fg6
      have Fh7 := hide (Fh6.out.below hb (by omega)); clear Fh6
      have HB7 := hide (bthen HB6.out (by omega) hb); clear hb HB6
      go_wp2_with fail
      refine (c_heldSS _ ls.length 1 _ Fg7.out.rd (by omega) (by omega)).mono ?_; rintro e w8 ⟨rfl, hb⟩
      have hs8 := hb.size
      have Fw8 := hide (Fw7.out.below hb (by omega)); clear Fw7
      have Fg8 := hide (Fg7.out.below hb (by omega)); clear Fg7
      have Fh8 := hide (Fh7.out.below hb (by omega)); clear Fh7
      have HB8 := hide (bthen HB7.out (by omega) hb); clear hb HB7
      go_wp2
      go_ret
      exact ⟨rfl, HB8.out⟩
  · go_enter Tryd.func3, Tryd.ntmps3
    go_wp2
    go_ret
    exact ⟨rfl, Below.refl _ _⟩
end Go.Proofs.YtjapidcbfnknkaaDoor
