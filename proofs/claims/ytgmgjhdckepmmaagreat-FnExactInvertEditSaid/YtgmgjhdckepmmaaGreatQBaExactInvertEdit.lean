/- Contract: l31Fields. -/
import Derived.Test.YtgmgjhdckepmmaaGreatQAgExactInvertEdit
import Derived.Test.YtgmgjhdckepmmaaGreatQAqExactInvertEdit
set_option linter.unusedVariables false
set_option linter.unusedSimpArgs false
namespace Go.Proofs.YtgmgjhdckepmmaaGreat
open Go.RowKit
set_option maxHeartbeats 4000000 in
set_option maxRecDepth 20000 in
theorem c_l31Fields (x : GEdit) (b o : Nat) (w : World) (h : T.at w x.fs b o) : Calls Tryz.prog 99 #[.pointer (some ⟨b, o, none⟩)] w fun e w' => e = .returned (.bool (tf (FieldsOk x))) ∧ Below w.heap.size w w' := by
  have HAT := hide h
  obtain ⟨hlt0, cs, hr, hc⟩ := h
  obtain rfl := GEdit.rd_open hr
  clear hr
  have HL := hide hlt0; have HCC := hide hc; have HB0 := hide (Below.refl w.heap.size w); clear hlt0 hc
  have HATN := hide (show T.at w x.fNew.fs b (o + 4) from T.at_sub [.int .i64 x.fKind, .int .i64 x.fTrack, .int .i64 x.fClip, .int .i64 x.fValue] [.int .i64 x.fNew.fSource, .int .i64 x.fNew.fFrom, .int .i64 x.fNew.fLength, .int .i64 x.fNew.fAt, .int .i64 x.fNew.fGain] [] HL.out HCC.out GClip.rd_mk)
  have p0 : w.cell? ⟨b, o, none⟩ = some (.int .i64 x.fKind) := (HB0.out.cell HL.out).trans (HCC.out 0 _ rfl)
  have p1 : w.cell? ⟨b, o + 1, none⟩ = some (.int .i64 x.fTrack) := (HB0.out.cell HL.out).trans (HCC.out 1 _ rfl)
  have p2 : w.cell? ⟨b, o + 2, none⟩ = some (.int .i64 x.fClip) := (HB0.out.cell HL.out).trans (HCC.out 2 _ rfl)
  have p3 : w.cell? ⟨b, o + 3, none⟩ = some (.int .i64 x.fValue) := (HB0.out.cell HL.out).trans (HCC.out 3 _ rfl)
  have p4 : w.cell? ⟨b, o + 4, none⟩ = some (.int .i64 x.fNew.fSource) := (HB0.out.cell HL.out).trans (HCC.out 4 _ rfl)
  have p5 : w.cell? ⟨b, o + 5, none⟩ = some (.int .i64 x.fNew.fFrom) := (HB0.out.cell HL.out).trans (HCC.out 5 _ rfl)
  have p6 : w.cell? ⟨b, o + 6, none⟩ = some (.int .i64 x.fNew.fLength) := (HB0.out.cell HL.out).trans (HCC.out 6 _ rfl)
  have p7 : w.cell? ⟨b, o + 7, none⟩ = some (.int .i64 x.fNew.fAt) := (HB0.out.cell HL.out).trans (HCC.out 7 _ rfl)
  have p8 : w.cell? ⟨b, o + 8, none⟩ = some (.int .i64 x.fNew.fGain) := (HB0.out.cell HL.out).trans (HCC.out 8 _ rfl)
  have lb : b < w.heap.size := Nat.lt_of_lt_of_le HL.out HB0.out.size
  have heq : ∀ w, (Op.equalIn 10000 39 (.agg #[.int .i64 x.fNew.fSource, .int .i64 x.fNew.fFrom, .int .i64 x.fNew.fLength, .int .i64 x.fNew.fAt, .int .i64 x.fNew.fGain]) (.agg #[.int .i64 0, .int .i64 0, .int .i64 0, .int .i64 0, .int .i64 0])).run Tryz.prog w = .ok (decide (x.fNew = noClip)) w := eq_Clip 9998 x.fNew noClip
  have hgd := eqg_Clip
  have BN := hide (@fieldsB_new x); have BR := hide (@fieldsB_rem x); have BF := hide (@fieldsB_feed x); have BS := hide (@fieldsB_send x); have B0 := hide (@fieldsB_none x)
  generalize hne : decide (x.fNew = noClip) = ne at *; clear hne
  generalize hco : tf (ClipOk x.fNew) = co at *; have HCO := hide hco; clear hco
  have HB1 := hide (show Below w.heap.size w (w.alloc (.cells #[.int .i64 0, .int .i64 0, .int .i64 0, .int .i64 0, .int .i64 0] 39)) from (Below.refl _ _).alloc (Nat.le_refl _) _); have HN := hide (Bk.born w 39 #[.int .i64 0, .int .i64 0, .int .i64 0, .int .i64 0, .int .i64 0])
  go_enter Tryz.func99, Tryz.ntmps99
  by_cases k1 : x.fKind = 1
  ·
    have q1 : (x.fKind == 1) = true := beqI_t k1
    have HE := hide (BN.out (.inl k1)); clear k1
    by_cases z : x.fValue = 0
    ·
      have hz : (x.fValue == 0) = true := beqI_t z
      have HZ := hide (decide_eq_true z); clear z
      go_wp2_with (go_at_call 159; refine (c_l23Clip x.fNew b (o + 4) _ (T.at_below HATN.out HB1.out)).mono ?_; rintro e w2 ⟨rfl, hb2⟩; rw [HCO.out]; have HB2 := hide (bthen HB1.out HB1.out.size hb2); clear hb2)
      go_ret
      exact ⟨ret_bool (by rw [HE.out, HZ.out]; rfl), HB2.out⟩
    have hz : (x.fValue == 0) = false := beqI_f z
    have HZ := hide (decide_eq_false z); clear z
    go_wp2
    go_ret
    exact ⟨ret_bool (by rw [HE.out, HZ.out]; rfl), HB1.out⟩
  have q1 : (x.fKind == 1) = false := beqI_f k1
  by_cases k3 : x.fKind = 3
  ·
    have q3 : (x.fKind == 3) = true := beqI_t k3
    have HE := hide (BN.out (.inr k3)); clear k3
    by_cases z : x.fValue = 0
    ·
      have hz : (x.fValue == 0) = true := beqI_t z
      have HZ := hide (decide_eq_true z); clear z
      go_wp2_with (go_at_call 159; refine (c_l23Clip x.fNew b (o + 4) _ (T.at_below HATN.out HB1.out)).mono ?_; rintro e w2 ⟨rfl, hb2⟩; rw [HCO.out]; have HB2 := hide (bthen HB1.out HB1.out.size hb2); clear hb2)
      go_ret
      exact ⟨ret_bool (by rw [HE.out, HZ.out]; rfl), HB2.out⟩
    have hz : (x.fValue == 0) = false := beqI_f z
    have HZ := hide (decide_eq_false z); clear z
    go_wp2
    go_ret
    exact ⟨ret_bool (by rw [HE.out, HZ.out]; rfl), HB1.out⟩
  have q3 : (x.fKind == 3) = false := beqI_f k3
  by_cases k2 : x.fKind = 2
  ·
    have q2 : (x.fKind == 2) = true := beqI_t k2
    have HE := hide (BR.out k2); clear k2
    by_cases z : x.fValue = 0
    ·
      have hz : (x.fValue == 0) = true := beqI_t z
      have HZ := hide (decide_eq_true z); clear z
      go_wp2
      generalize (w.alloc (.cells #[.int .i64 0, .int .i64 0, .int .i64 0, .int .i64 0, .int .i64 0] 39)) = W at *
      have g0 := bel_cell ((HB1.out.cell HL.out).trans p0)
      have g1 := bel_cell ((HB1.out.cell HL.out).trans p1)
      have g2 := bel_cell ((HB1.out.cell HL.out).trans p2)
      have g3 := bel_cell ((HB1.out.cell HL.out).trans p3)
      have g4 := bel_cell ((HB1.out.cell HL.out).trans p4)
      have g5 := bel_cell ((HB1.out.cell HL.out).trans p5)
      have g6 := bel_cell ((HB1.out.cell HL.out).trans p6)
      have g7 := bel_cell ((HB1.out.cell HL.out).trans p7)
      have g8 := bel_cell ((HB1.out.cell HL.out).trans p8)
      have g9 := bel_bk HN.out
      refine wp_region_bel (by kernel_rfl) (by kernel_rfl) ?_
      repeat (first | go_big_quiet_skip | (go_big_quiet_want; go_big_quiet_op; first | go_big_quiet_on | (apply Exists.intro; refine ⟨fun _ => ?_, ?_⟩; (· (fail)); go_big_quiet_on)))
      refine wpQuiet_nil ?_
      rintro w9 ⟨uu, rfl⟩
      have hb9 := bel_below W uu
      generalize bel W uu = w9 at *
      have HB9 := hide (bthen HB1.out HB1.out.size hb9); clear hb9 g0 g1 g2 g3 g4 g5 g6 g7 g8 g9
      go_wp2
      go_ret
      exact ⟨ret_bool (by rw [HE.out, HZ.out]; rfl), HB9.out⟩
    have hz : (x.fValue == 0) = false := beqI_f z
    have HZ := hide (decide_eq_false z); clear z
    go_wp2
    generalize (w.alloc (.cells #[.int .i64 0, .int .i64 0, .int .i64 0, .int .i64 0, .int .i64 0] 39)) = W at *
    have g0 := bel_cell ((HB1.out.cell HL.out).trans p0)
    have g1 := bel_cell ((HB1.out.cell HL.out).trans p1)
    have g2 := bel_cell ((HB1.out.cell HL.out).trans p2)
    have g3 := bel_cell ((HB1.out.cell HL.out).trans p3)
    have g4 := bel_cell ((HB1.out.cell HL.out).trans p4)
    have g5 := bel_cell ((HB1.out.cell HL.out).trans p5)
    have g6 := bel_cell ((HB1.out.cell HL.out).trans p6)
    have g7 := bel_cell ((HB1.out.cell HL.out).trans p7)
    have g8 := bel_cell ((HB1.out.cell HL.out).trans p8)
    have g9 := bel_bk HN.out
    refine wp_region_bel (by kernel_rfl) (by kernel_rfl) ?_
    repeat (first | go_big_quiet_skip | (go_big_quiet_want; go_big_quiet_op; first | go_big_quiet_on | (apply Exists.intro; refine ⟨fun _ => ?_, ?_⟩; (· (fail)); go_big_quiet_on)))
    refine wpQuiet_nil ?_
    rintro w9 ⟨uu, rfl⟩
    have hb9 := bel_below W uu
    generalize bel W uu = w9 at *
    have HB9 := hide (bthen HB1.out HB1.out.size hb9); clear hb9 g0 g1 g2 g3 g4 g5 g6 g7 g8 g9
    go_wp2
    go_ret
    exact ⟨ret_bool (by rw [HE.out, HZ.out]; rfl), HB9.out⟩
  have q2 : (x.fKind == 2) = false := beqI_f k2
  by_cases k4 : x.fKind = 4
  ·
    have q4 : (x.fKind == 4) = true := beqI_t k4
    have HE := hide (BF.out k4); clear k4
    by_cases z : x.fClip = 0
    ·
      have hz : (x.fClip == 0) = true := beqI_t z
      have HZ := hide (decide_eq_true z); clear z
      go_wp2
      generalize (w.alloc (.cells #[.int .i64 0, .int .i64 0, .int .i64 0, .int .i64 0, .int .i64 0] 39)) = W at *
      have g0 := bel_cell ((HB1.out.cell HL.out).trans p0)
      have g1 := bel_cell ((HB1.out.cell HL.out).trans p1)
      have g2 := bel_cell ((HB1.out.cell HL.out).trans p2)
      have g3 := bel_cell ((HB1.out.cell HL.out).trans p3)
      have g4 := bel_cell ((HB1.out.cell HL.out).trans p4)
      have g5 := bel_cell ((HB1.out.cell HL.out).trans p5)
      have g6 := bel_cell ((HB1.out.cell HL.out).trans p6)
      have g7 := bel_cell ((HB1.out.cell HL.out).trans p7)
      have g8 := bel_cell ((HB1.out.cell HL.out).trans p8)
      have g9 := bel_bk HN.out
      refine wp_region_bel (by kernel_rfl) (by kernel_rfl) ?_
      repeat (first | go_big_quiet_skip | (go_big_quiet_want; go_big_quiet_op; first | go_big_quiet_on | (apply Exists.intro; refine ⟨fun _ => ?_, ?_⟩; (· (fail)); go_big_quiet_on)))
      refine wpQuiet_nil ?_
      rintro w9 ⟨uu, rfl⟩
      have hb9 := bel_below W uu
      generalize bel W uu = w9 at *
      have HB9 := hide (bthen HB1.out HB1.out.size hb9); clear hb9 g0 g1 g2 g3 g4 g5 g6 g7 g8 g9
      go_wp2
      go_ret
      exact ⟨ret_bool (by rw [HE.out, HZ.out]; rfl), HB9.out⟩
    have hz : (x.fClip == 0) = false := beqI_f z
    have HZ := hide (decide_eq_false z); clear z
    go_wp2
    generalize (w.alloc (.cells #[.int .i64 0, .int .i64 0, .int .i64 0, .int .i64 0, .int .i64 0] 39)) = W at *
    have g0 := bel_cell ((HB1.out.cell HL.out).trans p0)
    have g1 := bel_cell ((HB1.out.cell HL.out).trans p1)
    have g2 := bel_cell ((HB1.out.cell HL.out).trans p2)
    have g3 := bel_cell ((HB1.out.cell HL.out).trans p3)
    have g4 := bel_cell ((HB1.out.cell HL.out).trans p4)
    have g5 := bel_cell ((HB1.out.cell HL.out).trans p5)
    have g6 := bel_cell ((HB1.out.cell HL.out).trans p6)
    have g7 := bel_cell ((HB1.out.cell HL.out).trans p7)
    have g8 := bel_cell ((HB1.out.cell HL.out).trans p8)
    have g9 := bel_bk HN.out
    refine wp_region_bel (by kernel_rfl) (by kernel_rfl) ?_
    repeat (first | go_big_quiet_skip | (go_big_quiet_want; go_big_quiet_op; first | go_big_quiet_on | (apply Exists.intro; refine ⟨fun _ => ?_, ?_⟩; (· (fail)); go_big_quiet_on)))
    refine wpQuiet_nil ?_
    rintro w9 ⟨uu, rfl⟩
    have hb9 := bel_below W uu
    generalize bel W uu = w9 at *
    have HB9 := hide (bthen HB1.out HB1.out.size hb9); clear hb9 g0 g1 g2 g3 g4 g5 g6 g7 g8 g9
    go_wp2
    go_ret
    exact ⟨ret_bool (by rw [HE.out, HZ.out]; rfl), HB9.out⟩
  have q4 : (x.fKind == 4) = false := beqI_f k4
  by_cases k5 : x.fKind = 5
  ·
    have q5 : (x.fKind == 5) = true := beqI_t k5
    have HE := hide (BS.out k5); clear k5
    go_wp2
    generalize (w.alloc (.cells #[.int .i64 0, .int .i64 0, .int .i64 0, .int .i64 0, .int .i64 0] 39)) = W at *
    have g0 := bel_cell ((HB1.out.cell HL.out).trans p0)
    have g1 := bel_cell ((HB1.out.cell HL.out).trans p1)
    have g2 := bel_cell ((HB1.out.cell HL.out).trans p2)
    have g3 := bel_cell ((HB1.out.cell HL.out).trans p3)
    have g4 := bel_cell ((HB1.out.cell HL.out).trans p4)
    have g5 := bel_cell ((HB1.out.cell HL.out).trans p5)
    have g6 := bel_cell ((HB1.out.cell HL.out).trans p6)
    have g7 := bel_cell ((HB1.out.cell HL.out).trans p7)
    have g8 := bel_cell ((HB1.out.cell HL.out).trans p8)
    have g9 := bel_bk HN.out
    refine wp_region_bel (by kernel_rfl) (by kernel_rfl) ?_
    repeat (first | go_big_quiet_skip | (go_big_quiet_want; go_big_quiet_op; first | go_big_quiet_on | (apply Exists.intro; refine ⟨fun _ => ?_, ?_⟩; (· (fail)); go_big_quiet_on)))
    refine wpQuiet_nil ?_
    rintro w9 ⟨uu, rfl⟩
    have hb9 := bel_below W uu
    generalize bel W uu = w9 at *
    have HB9 := hide (bthen HB1.out HB1.out.size hb9); clear hb9 g0 g1 g2 g3 g4 g5 g6 g7 g8 g9
    go_wp2
    go_ret
    exact ⟨ret_bool HE.out.symm, HB9.out⟩
  have q5 : (x.fKind == 5) = false := beqI_f k5
  have HE := hide (B0.out (fun h => h.elim k1 k3) k2 k4 k5)
  clear k1 k2 k3 k4 k5
  go_wp2
  go_ret
  exact ⟨ret_bool HE.out.symm, HB1.out⟩
end Go.Proofs.YtgmgjhdckepmmaaGreat
