/- The law ReadChanges. -/
import Derived.Test.YtjbcanihpcfncaaDoorYj
import Derived.Test.YtjbcanihpcfncaaDoorUi
import Derived.Test.YtjbcanihpcfncaaDoorUx
namespace Go.Proofs.YtjbcanihpcfncaaDoor
open Go.RowKit
theorem cs_Rc (s : ByteArray) (B : Bool) (L : List Chg) (w : World) (hs : s.size ≤ 1048576) (h : (rcI s).isSome = B ∧ (rcI s).getD [] = L) :
    Calls Tryd.prog 4 #[.string s] w fun e w' => ∃ v, e = .returned (.tuple #[v, .bool B]) ∧ OwC 35 w' w.heap.size v L ∧ Below w.heap.size w w' := by
  obtain ⟨rfl, rfl⟩ := h
  rw [rc_eq]
  exact c_sRead s w hs
theorem ci_Rc (s : ByteArray) (B : Bool) (L : List Chg) (w : World) (hs : s.size ≤ 1048576) (h : (rcI s).isSome = B ∧ (rcI s).getD [] = L) (ht : TB w) (hev : EV w) :
    Calls Tryd.prog 5 #[.string s] w fun e w' => ∃ v, e = .returned (.tuple #[v, .bool B]) ∧ OwC 35 w' w.heap.size v L ∧ Below w.heap.size w w' := by
  obtain ⟨rfl, rfl⟩ := h
  exact c_iRead s w hs ht hev
theorem rc_len (s : ByteArray) : ((rcI s).getD []).length ≤ 400 := by
  cases h : rcI s with
  | none => simp
  | some L =>
    have := (rcI_iff.1 h).1
    simp only [chgS, Bool.and_eq_true, decide_eq_true_eq] at this
    exact this.1
set_option maxHeartbeats 1000000 in
set_option maxRecDepth 100000 in
theorem law_ReadChanges (s : ByteArray) (w : World) (ht : TB w) (hev : EV w) (hsz : s.size ≤ maxLen) : Calls Tryd.prog 3 #[.string s] w fun e w' => e = .returned (.bool true) ∧ Below w.heap.size w w' := by
  have hmx : s.size ≤ 9223372036854775807 := by unfold maxLen at hsz; omega
  by_cases hs : s.size ≤ 1048576
  · have hn := rc_len s
    obtain ⟨B, hB⟩ : ∃ B, (rcI s).isSome = B := ⟨_, rfl⟩
    obtain ⟨L, hL⟩ : ∃ L, (rcI s).getD [] = L := ⟨_, rfl⟩
    rw [hL] at hn
    have HP := hide (show (rcI s).isSome = B ∧ (rcI s).getD [] = L from ⟨hB, hL⟩)
    have HT := hide ht; have HE := hide hev
    clear hB hL ht hev
    cases B
    all_goals
      go_enter Tryd.func3, Tryd.ntmps3
      go_wp2_with fail
      refine (cs_Rc s _ L _ hs HP.out).mono ?_; rintro e w1 ⟨vw, rfl, ow, hb⟩
      have hs1 := hb.size
      have Fw1 := hide (FrG.born ow); clear ow
      have HB1 := hide hb; clear hb
      go_wp2_with fail
      refine (ci_Rc s _ L _ hs HP.out (HT.out.below HB1.out) (HE.out.below HB1.out)).mono ?_; rintro e w2 ⟨vg, rfl, og, hb⟩
      have hs2 := hb.size
      have Fw2 := hide (Fw1.out.below hb (by omega)); clear Fw1
      have Fg2 := hide (FrG.born og); clear og
      have HB2 := hide (bthen HB1.out (by omega) hb); clear hb HB1
      go_wp2_with fail
      refine (c_eqCS _ _ L _ Fg2.out.rd Fw2.out.rd).mono ?_; rintro e w3 ⟨rfl, hb⟩
      have hs3 := hb.size
      have Fw3 := hide (Fw2.out.below hb (by omega)); clear Fw2
      have Fg3 := hide (Fg2.out.below hb (by omega)); clear Fg2
      have HB3 := hide (bthen HB2.out (by omega) hb); clear hb HB2
      go_wp2_with fail
      refine (c_markCS _ _ L 1 _ Fg3.out.1 (by omega) (by omega) (by omega)).mono ?_; rintro e w4 ⟨rfl, om, hg⟩
      have hs4 := hg.size
      have Fw4 := hide (Fw3.out.other Fg3.out hg (by omega)); clear Fw3
      have HB4 := hide (Fg3.out.below_mark HB3.out hg (by omega) (by omega)); clear HB3
      have Fg4 := hide (Fg3.out.mark om); clear Fg3 om hg
      go_wp2_with fail
      refine (c_heldCS _ L.length 1 _ Fg4.out.rd (by omega) (by omega)).mono ?_; rintro e w5 ⟨rfl, hb⟩
      have hs5 := hb.size
      have Fw5 := hide (Fw4.out.below hb (by omega)); clear Fw4
      have Fg5 := hide (Fg4.out.below hb (by omega)); clear Fg4
      have HB5 := hide (bthen HB4.out (by omega) hb); clear hb HB4
      go_wp2_with fail
      refine (ci_Rc s _ L _ hs HP.out (HT.out.below HB5.out) (HE.out.below HB5.out)).mono ?_; rintro e w6 ⟨vh, rfl, oh, hb⟩
      have hs6 := hb.size
      have Fw6 := hide (Fw5.out.below hb (by omega)); clear Fw5
      have Fg6 := hide (Fg5.out.below hb (by omega)); clear Fg5
      have Fh6 := hide (FrG.born oh); clear oh
      have HB6 := hide (bthen HB5.out (by omega) hb); clear hb HB5
      go_wp2_with fail
      refine (c_eqCS _ _ L _ Fh6.out.rd Fw6.out.rd).mono ?_; rintro e w7 ⟨rfl, hb⟩
      have hs7 := hb.size
      have Fg7 := hide (Fg6.out.below hb (by omega)); clear Fg6
      have HB7 := hide (bthen HB6.out (by omega) hb); clear hb HB6
      go_wp2_with fail
      refine (c_heldCS _ L.length 1 _ Fg7.out.rd (by omega) (by omega)).mono ?_; rintro e w8 ⟨rfl, hb⟩
      have HB8 := hide (bthen HB7.out (by omega) hb); clear hb HB7
      go_wp2
      go_ret
      exact ⟨rfl, HB8.out⟩
  · go_enter Tryd.func3, Tryd.ntmps3
    go_wp2
    go_ret
    exact ⟨rfl, Below.refl _ _⟩
end Go.Proofs.YtjbcanihpcfncaaDoor
