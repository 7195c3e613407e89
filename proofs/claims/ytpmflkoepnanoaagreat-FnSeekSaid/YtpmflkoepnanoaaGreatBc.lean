/- Contracts: StoreInfo of both sides; and the law. -/
import Derived.Test.YtpmflkoepnanoaaGreatBb
namespace Go.Proofs.YtpmflkoepnanoaaGreat
open Go.RowKit
def stemB (s : ByteArray) : Bool := (s.extract 0 4).toList == [83, 84, 69, 77]
def headB (s : ByteArray) : Bool := decide (sealS (s.extract 0 8) = s.extract 0 10)
def okB (s : ByteArray) : Bool := inB (numS s 4 : Int) 16 256 && decide (numS s 6 ≤ 4000)
/-- The head of a store: samples, frame size, code. -/
def infoF (s : ByteArray) : Int × Int × Int :=
  if s.size < 10 then (0, 0, 11) else if stemB s = false then (0, 0, 9) else if headB s = false then (0, 0, 10) else if okB s = true then ((numS s 6 : Nat), (numS s 4 : Nat), 0) else (0, 0, 9)
def Info (s : ByteArray) (w : World) (e : Ending) (w' : World) : Prop := e = .returned (.tuple #[.int .i64 (infoF s).1, .int .i64 (infoF s).2.1, .int .i64 (infoF s).2.2]) ∧ Below w.heap.size w w'
theorem Info.mk {s : ByteArray} {w w' : World} {a b c : Int} (h : infoF s = (a, b, c)) (hb : Below w.heap.size w w') : Info s w (.returned (.tuple #[.int .i64 a, .int .i64 b, .int .i64 c])) w' := ⟨by rw [h], hb⟩
theorem headB_impl (s : ByteArray) (h : 10 ≤ s.size) : sealedB (s.extract 0 10) = headB s := by
  unfold sealedB headB
  rw [size_ext0 s 10 h, extract_extract s 10 8 (by omega) h]
set_option maxHeartbeats 800000 in
set_option maxRecDepth 100000 in
theorem c_sStoreInfo (s : ByteArray) (w : World) (hs : s.size ≤ 1073741824) : Calls Tryz.prog 62 #[.string s] w (Info s w) := by
  by_cases h10 : s.size < 10
  · have hi : infoF s = (0, 0, 11) := by unfold infoF; rw [if_pos h10]
    have HI := hide hi; clear hi
    go_enter Tryz.func62, Tryz.ntmps62
    go_wp2
    go_ret3
    exact Info.mk HI.out (Below.refl _ _)
  · cases h4 : ((s.extract 0 4).toList == [83, 84, 69, 77])
    · have hi : infoF s = (0, 0, 9) := by unfold infoF; rw [if_neg h10, if_pos (show stemB s = false from h4)]
      have HI := hide hi; clear hi
      go_enter Tryz.func62, Tryz.ntmps62
      go_wp2
      go_ret3
      exact Info.mk HI.out (Below.refl _ _)
    · have hst : stemB s = true := h4
      have hz8 := size_ext0 s 8 (by omega)
      have HZ8 := hide hz8; clear hz8
      cases h8 : ((sealS (s.extract 0 8)).toList == (s.extract 0 10).toList)
      · have hi : infoF s = (0, 0, 10) := by unfold infoF; rw [if_neg h10, if_neg (by rw [hst]; simp), if_pos (show headB s = false by unfold headB; rw [← str_eq]; exact h8)]
        have HI := hide hi; clear hi hst
        generalize hss : sealS (s.extract 0 8) = sl at *
        have HSS := hide hss; clear hss
        go_enter Tryz.func62, Tryz.ntmps62
        go_wp2_with fail
        go_region_with (go_at_call 76; refine (c_l29Seal _ _ (by rw [HZ8.out]; omega)).mono ?_; rw [HSS.out]; rintro e w1 ⟨rfl, hb⟩; have HB := hide hb; clear hb)
        all_goals go_wp2
        all_goals go_ret3
        all_goals exact Info.mk HI.out (by first | exact HB.out | exact undrew HB.out | exact Below.drew HB.out | exact Below.drew (undrew HB.out) | exact undrewN HB.out | exact below_drewN HB.out _)
      · have hhd : headB s = true := by unfold headB; rw [← str_eq]; exact h8
        have hn4 := numS_lt s 4; have hn6 := numS_lt s 6
        generalize hss : sealS (s.extract 0 8) = sl at *
        have HSS := hide hss; clear hss
        cases hk : inB (numS s 4 : Int) 16 256
        · have hi : infoF s = (0, 0, 9) := by unfold infoF; rw [if_neg h10, if_neg (by rw [hst]; simp), if_neg (by rw [hhd]; simp), if_neg (by unfold okB; rw [hk]; simp)]
          have HI := hide hi; clear hi hst hhd
          go_enter Tryz.func62, Tryz.ntmps62
          go_wp2_with fail
          go_region_with (go_at_call 76; refine (c_l29Seal _ _ (by rw [HZ8.out]; omega)).mono ?_; rw [HSS.out]; rintro e w1 ⟨rfl, hb⟩; have HB := hide hb; clear hb)
          go_wp2_with fail
          refine (c_l29At s 4 _ (by omega) hs).mono ?_; rintro e _ ⟨rfl, n1, rfl⟩
          go_wp2_with fail
          refine (c_l29At s 6 _ (by omega) hs).mono ?_; rintro e _ ⟨rfl, n2, rfl⟩
          go_wp2_with (go_at_call 37; refine (c_l00In _ _ _ _).mono ?_; rintro e w' ⟨rfl, rfl⟩)
          go_ret3
          exact Info.mk HI.out (below_drewN (by first | exact HB.out | exact undrew HB.out | exact Below.drew HB.out | exact Below.drew (undrew HB.out) | exact undrewN HB.out | exact below_drewN HB.out _) _)
        · by_cases h6 : numS s 6 ≤ 4000
          · have hi : infoF s = (((numS s 6 : Nat) : Int), ((numS s 4 : Nat) : Int), 0) := by unfold infoF; rw [if_neg h10, if_neg (by rw [hst]; simp), if_neg (by rw [hhd]; simp), if_pos (by unfold okB; rw [hk]; simp [h6])]
            have HI := hide hi; clear hi hst hhd
            go_enter Tryz.func62, Tryz.ntmps62
            go_wp2_with fail
            go_region_with (go_at_call 76; refine (c_l29Seal _ _ (by rw [HZ8.out]; omega)).mono ?_; rw [HSS.out]; rintro e w1 ⟨rfl, hb⟩; have HB := hide hb; clear hb)
            go_wp2_with fail
            refine (c_l29At s 4 _ (by omega) hs).mono ?_; rintro e _ ⟨rfl, n1, rfl⟩
            go_wp2_with fail
            refine (c_l29At s 6 _ (by omega) hs).mono ?_; rintro e _ ⟨rfl, n2, rfl⟩
            go_wp2_with (go_at_call 37; refine (c_l00In _ _ _ _).mono ?_; rintro e w' ⟨rfl, rfl⟩)
            go_ret3
            exact Info.mk HI.out (below_drewN (by first | exact HB.out | exact undrew HB.out | exact Below.drew HB.out | exact Below.drew (undrew HB.out) | exact undrewN HB.out | exact below_drewN HB.out _) _)
          · have hi : infoF s = (0, 0, 9) := by unfold infoF; rw [if_neg h10, if_neg (by rw [hst]; simp), if_neg (by rw [hhd]; simp), if_neg (by unfold okB; rw [hk]; simp [h6])]
            have HI := hide hi; clear hi hst hhd
            go_enter Tryz.func62, Tryz.ntmps62
            go_wp2_with fail
            go_region_with (go_at_call 76; refine (c_l29Seal _ _ (by rw [HZ8.out]; omega)).mono ?_; rw [HSS.out]; rintro e w1 ⟨rfl, hb⟩; have HB := hide hb; clear hb)
            go_wp2_with fail
            refine (c_l29At s 4 _ (by omega) hs).mono ?_; rintro e _ ⟨rfl, n1, rfl⟩
            go_wp2_with fail
            refine (c_l29At s 6 _ (by omega) hs).mono ?_; rintro e _ ⟨rfl, n2, rfl⟩
            go_wp2_with (go_at_call 37; refine (c_l00In _ _ _ _).mono ?_; rintro e w' ⟨rfl, rfl⟩)
            go_ret3
            exact Info.mk HI.out (below_drewN (by first | exact HB.out | exact undrew HB.out | exact Below.drew HB.out | exact Below.drew (undrew HB.out) | exact undrewN HB.out | exact below_drewN HB.out _) _)
set_option maxHeartbeats 800000 in
set_option maxRecDepth 100000 in
theorem c_iStoreInfo (s : ByteArray) (w : World) (hs : s.size ≤ 1073741824) : Calls Tryz.prog 10 #[.string s] w (Info s w) := by
  by_cases h10 : s.size < 10
  · have hi : infoF s = (0, 0, 11) := by unfold infoF; rw [if_pos h10]
    have HI := hide hi; clear hi
    go_enter Tryz.func10, Tryz.ntmps10
    go_wp2
    go_ret3
    exact Info.mk HI.out (Below.refl _ _)
  · cases h4 : ((s.extract 0 4).toList == [83, 84, 69, 77])
    · have hi : infoF s = (0, 0, 9) := by unfold infoF; rw [if_neg h10, if_pos (show stemB s = false from h4)]
      have HI := hide hi; clear hi
      go_enter Tryz.func10, Tryz.ntmps10
      go_wp2
      go_ret3
      exact Info.mk HI.out (Below.refl _ _)
    · have hst : stemB s = true := h4
      have hz8 := size_ext0 s 10 (by omega)
      have HZ8 := hide hz8; clear hz8
      have hq := headB_impl s (by omega)
      have HQ := hide hq; clear hq
      have hn4 := numS_lt s 4; have hn6 := numS_lt s 6
      cases h8 : headB s
      · have hi : infoF s = (0, 0, 10) := by unfold infoF; rw [if_neg h10, if_neg (by rw [hst]; simp), if_pos h8]
        have HI := hide hi; clear hi hst
        have H8 := hide h8; clear h8
        go_enter Tryz.func10, Tryz.ntmps10
        go_wp2_with fail
        refine (c_isChecked (s.extract 0 10) _ (by rw [HZ8.out]; omega) (by rw [HZ8.out]; omega)).mono ?_; rw [HQ.out, H8.out]; rintro e w1 ⟨rfl, hb⟩; have HB := hide hb; clear hb
        go_wp2
        go_ret3
        exact Info.mk HI.out HB.out
      · have H8 := hide h8; clear h8
        cases hk : inB (numS s 4 : Int) 16 256
        · have hi : infoF s = (0, 0, 9) := by unfold infoF; rw [if_neg h10, if_neg (by rw [hst]; simp), if_neg (by rw [H8.out]; simp), if_neg (by unfold okB; rw [hk]; simp)]
          have HI := hide hi; clear hi hst
          go_enter Tryz.func10, Tryz.ntmps10
          go_wp2_with fail
          refine (c_isChecked (s.extract 0 10) _ (by rw [HZ8.out]; omega) (by rw [HZ8.out]; omega)).mono ?_; rw [HQ.out, H8.out]; rintro e w1 ⟨rfl, hb⟩; have HB := hide hb; clear hb
          go_wp2_with fail
          refine (c_numberAt s 4 _ (by omega) hs).mono ?_; rintro e _ ⟨rfl, n1, rfl⟩
          go_wp2_with fail
          refine (c_numberAt s 6 _ (by omega) hs).mono ?_; rintro e _ ⟨rfl, n2, rfl⟩
          go_wp2_with (go_at_call 25; refine (c_within _ _ _ _).mono ?_; rintro e w' ⟨rfl, rfl⟩)
          go_ret3
          exact Info.mk HI.out (below_drewN (by first | exact HB.out | exact undrew HB.out | exact Below.drew HB.out | exact Below.drew (undrew HB.out) | exact undrewN HB.out | exact below_drewN HB.out _) _)
        · by_cases h6 : numS s 6 ≤ 4000
          · have hi : infoF s = (((numS s 6 : Nat) : Int), ((numS s 4 : Nat) : Int), 0) := by unfold infoF; rw [if_neg h10, if_neg (by rw [hst]; simp), if_neg (by rw [H8.out]; simp), if_pos (by unfold okB; rw [hk]; simp [h6])]
            have HI := hide hi; clear hi hst
            go_enter Tryz.func10, Tryz.ntmps10
            go_wp2_with fail
            refine (c_isChecked (s.extract 0 10) _ (by rw [HZ8.out]; omega) (by rw [HZ8.out]; omega)).mono ?_; rw [HQ.out, H8.out]; rintro e w1 ⟨rfl, hb⟩; have HB := hide hb; clear hb
            go_wp2_with fail
            refine (c_numberAt s 4 _ (by omega) hs).mono ?_; rintro e _ ⟨rfl, n1, rfl⟩
            go_wp2_with fail
            refine (c_numberAt s 6 _ (by omega) hs).mono ?_; rintro e _ ⟨rfl, n2, rfl⟩
            go_wp2_with (go_at_call 25; refine (c_within _ _ _ _).mono ?_; rintro e w' ⟨rfl, rfl⟩)
            go_ret3
            exact Info.mk HI.out (below_drewN (by first | exact HB.out | exact undrew HB.out | exact Below.drew HB.out | exact Below.drew (undrew HB.out) | exact undrewN HB.out | exact below_drewN HB.out _) _)
          · have hi : infoF s = (0, 0, 9) := by unfold infoF; rw [if_neg h10, if_neg (by rw [hst]; simp), if_neg (by rw [H8.out]; simp), if_neg (by unfold okB; rw [hk]; simp [h6])]
            have HI := hide hi; clear hi hst
            go_enter Tryz.func10, Tryz.ntmps10
            go_wp2_with fail
            refine (c_isChecked (s.extract 0 10) _ (by rw [HZ8.out]; omega) (by rw [HZ8.out]; omega)).mono ?_; rw [HQ.out, H8.out]; rintro e w1 ⟨rfl, hb⟩; have HB := hide hb; clear hb
            go_wp2_with fail
            refine (c_numberAt s 4 _ (by omega) hs).mono ?_; rintro e _ ⟨rfl, n1, rfl⟩
            go_wp2_with fail
            refine (c_numberAt s 6 _ (by omega) hs).mono ?_; rintro e _ ⟨rfl, n2, rfl⟩
            go_wp2_with (go_at_call 25; refine (c_within _ _ _ _).mono ?_; rintro e w' ⟨rfl, rfl⟩)
            go_ret3
            exact Info.mk HI.out (below_drewN (by first | exact HB.out | exact undrew HB.out | exact Below.drew HB.out | exact Below.drew (undrew HB.out) | exact undrewN HB.out | exact below_drewN HB.out _) _)
end Go.Proofs.YtpmflkoepnanoaaGreat
