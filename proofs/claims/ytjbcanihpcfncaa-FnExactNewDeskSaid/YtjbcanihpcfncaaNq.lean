/- NewDesk: the law. -/
import Derived.Test.YtjbcanihpcfncaaNp
namespace Go.Proofs.Ytjbcanihpcfncaa
open Go.RowKit
set_option maxHeartbeats 1000000 in
set_option maxRecDepth 20000 in
theorem c_sNewDesk (w : World) : Calls Try.prog 4 #[] w fun e w' => ∃ u0, ∃ u1, ∃ u6, ∃ u7, ∃ u9, ∃ u10, ∃ u11, ∃ u12, ∃ u13, e = .returned (.agg #[u0, u1, .int .i64 8, .int .i64 1, .int .i64 2, .int .i64 1, u6, u7, .int .i64 100, u9, u10, u11, u12, u13]) ∧ T.rd w' (T.sl 85 7 (desk0.fScore.fNotes.map GNote.t)) [u0] ∧ T.rd w' (T.sl 50 3 (desk0.fTempos.fTempos.map GTempo.t)) [u1] ∧ T.rd w' (T.sl 29 2 (desk0.fTuning.fRatios.map GFrac.t)) [u6] ∧ T.rd w' (T.ints 2 desk0.fSignal) [u7] ∧ T.rd w' (T.sl 33 1 (desk0.fSession.fSources.map (T.ints 2))) [u9] ∧ T.rd w' (T.sl 90 1 (desk0.fSession.fTracks.map GTrack.t)) [u10] ∧ T.rd w' (T.ints 2 desk0.fSession.fFeeds) [u11] ∧ T.rd w' (T.sl 53 4 (desk0.fSession.fEffects.map GPatch.t)) [u12] ∧ T.rd w' (T.sl 56 3 (desk0.fSession.fMixer.fStrips.map GStrip.t)) [u13] ∧ Below w.heap.size w w' := by
  go_enter Try.func4, Try.ntmps4
  have HB0 := hide (show Below w.heap.size w (w.alloc (.cells #[.slice none 0 0, .slice none 0 0, .int .i64 0, .int .i64 0, .int .i64 0, .int .i64 0, .slice none 0 0, .slice none 0 0, .int .i64 0, .slice none 0 0, .slice none 0 0, .slice none 0 0, .slice none 0 0, .slice none 0 0] 43)) from (Below.refl _ _).alloc (Nat.le_refl _) _)
  have HK0 := hide (Bk.born w 43 #[.slice none 0 0, .slice none 0 0, .int .i64 0, .int .i64 0, .int .i64 0, .int .i64 0, .slice none 0 0, .slice none 0 0, .int .i64 0, .slice none 0 0, .slice none 0 0, .slice none 0 0, .slice none 0 0, .slice none 0 0])
  go_wp2_with fail
  refine (c_l33New _).mono ?_; rintro e w1 ⟨u0, F0, u1, F1, u6, F6, u7, F7, u9, F9, u10, F10, u11, F11, u12, F12, u13, F13, rfl, ho0, ho1, ho6, ho7, ho9, ho10, ho11, ho12, ho13, hsg, hb⟩
  obtain ⟨ua0, ul0, uc0, rfl⟩ := T.ow_slice ho0
  obtain ⟨ua1, ul1, uc1, rfl⟩ := T.ow_slice ho1
  obtain ⟨ua6, ul6, uc6, rfl⟩ := T.ow_slice ho6
  obtain ⟨ua7, ul7, uc7, rfl⟩ := T.ow_slice ho7
  obtain ⟨ua9, ul9, uc9, rfl⟩ := T.ow_slice ho9
  obtain ⟨ua10, ul10, uc10, rfl⟩ := T.ow_slice ho10
  obtain ⟨ua11, ul11, uc11, rfl⟩ := T.ow_slice ho11
  obtain ⟨ua12, ul12, uc12, rfl⟩ := T.ow_slice ho12
  obtain ⟨ua13, ul13, uc13, rfl⟩ := T.ow_slice ho13
  have HK1 := hide (HK0.out.below hb HK0.out.lt); have HB1 := hide (bthen HB0.out HB0.out.size hb)
  have hlo := hsg.all.2
  have hwz : (w.alloc (.cells #[.slice none 0 0, .slice none 0 0, .int .i64 0, .int .i64 0, .int .i64 0, .int .i64 0, .slice none 0 0, .slice none 0 0, .int .i64 0, .slice none 0 0, .slice none 0 0, .slice none 0 0, .slice none 0 0, .slice none 0 0] 43)).heap.size = w.heap.size + 1 := by simp
  rw [hwz] at hlo
  have hg0 : w.heap.size ∉ F0 := fun h => by have := (hlo _ (show w.heap.size ∈ _ by simp [h])).1; omega
  have O0 := hide ho0
  have hg1 : w.heap.size ∉ F1 := fun h => by have := (hlo _ (show w.heap.size ∈ _ by simp [h])).1; omega
  have O1 := hide ho1
  have hg6 : w.heap.size ∉ F6 := fun h => by have := (hlo _ (show w.heap.size ∈ _ by simp [h])).1; omega
  have O6 := hide ho6
  have hg7 : w.heap.size ∉ F7 := fun h => by have := (hlo _ (show w.heap.size ∈ _ by simp [h])).1; omega
  have O7 := hide ho7
  have hg9 : w.heap.size ∉ F9 := fun h => by have := (hlo _ (show w.heap.size ∈ _ by simp [h])).1; omega
  have O9 := hide ho9
  have hg10 : w.heap.size ∉ F10 := fun h => by have := (hlo _ (show w.heap.size ∈ _ by simp [h])).1; omega
  have O10 := hide ho10
  have hg11 : w.heap.size ∉ F11 := fun h => by have := (hlo _ (show w.heap.size ∈ _ by simp [h])).1; omega
  have O11 := hide ho11
  have hg12 : w.heap.size ∉ F12 := fun h => by have := (hlo _ (show w.heap.size ∈ _ by simp [h])).1; omega
  have O12 := hide ho12
  have hg13 : w.heap.size ∉ F13 := fun h => by have := (hlo _ (show w.heap.size ∈ _ by simp [h])).1; omega
  have O13 := hide ho13
  have k1 := HK1.out.cell; have f1 := HK1.out.free
  clear hb hsg hlo hwz ho0 ho1 ho6 ho7 ho9 ho10 ho11 ho12 ho13
  go_wp2
  refine bodyPost_ret (v := .agg #[(.slice ua0 ul0 uc0), (.slice ua1 ul1 uc1), .int .i64 8, .int .i64 1, .int .i64 2, .int .i64 1, (.slice ua6 ul6 uc6), (.slice ua7 ul7 uc7), .int .i64 100, (.slice ua9 ul9 uc9), (.slice ua10 ul10 uc10), (.slice ua11 ul11 uc11), (.slice ua12 ul12 uc12), (.slice ua13 ul13 uc13)]) (by simp [results, Try.results4, go_sem, k1, f1]) rfl ?_
  have hB := HB1.out
  have hSz := hB.size
  refine ⟨_, _, _, _, _, _, _, _, _, rfl, T.ow_rd _ F0 _ (by repeat (first | with_reducible exact O0.out | with_reducible refine T.ow_far ?_ hg0 _ _)), T.ow_rd _ F1 _ (by repeat (first | with_reducible exact O1.out | with_reducible refine T.ow_far ?_ hg1 _ _)), T.ow_rd _ F6 _ (by repeat (first | with_reducible exact O6.out | with_reducible refine T.ow_far ?_ hg6 _ _)), T.ow_rd _ F7 _ (by repeat (first | with_reducible exact O7.out | with_reducible refine T.ow_far ?_ hg7 _ _)), T.ow_rd _ F9 _ (by repeat (first | with_reducible exact O9.out | with_reducible refine T.ow_far ?_ hg9 _ _)), T.ow_rd _ F10 _ (by repeat (first | with_reducible exact O10.out | with_reducible refine T.ow_far ?_ hg10 _ _)), T.ow_rd _ F11 _ (by repeat (first | with_reducible exact O11.out | with_reducible refine T.ow_far ?_ hg11 _ _)), T.ow_rd _ F12 _ (by repeat (first | with_reducible exact O12.out | with_reducible refine T.ow_far ?_ hg12 _ _)), T.ow_rd _ F13 _ (by repeat (first | with_reducible exact O13.out | with_reducible refine T.ow_far ?_ hg13 _ _)), ?_⟩
  exact (by repeat (first | with_reducible exact Below.refl _ _ | with_reducible assumption | with_reducible refine Below.setCell ?_ (by first | omega | (simp; done) | (simp; omega)) _ | with_reducible refine Below.alloc ?_ (by first | omega | (simp; done) | (simp; omega)) _))
theorem desk0_cnt : desk0.cntv = 8 := rfl
set_option maxHeartbeats 4000000 in
set_option maxRecDepth 100000 in
theorem law_NewDesk (w : World) : Calls Try.prog 3 #[] w fun e w' => e = .returned (.bool true) ∧ Below w.heap.size w w' := by
  go_enter Try.func3, Try.ntmps3
  go_wp2_with fail
  refine (c_sNewDesk _).mono ?_; rintro e w1 ⟨v0, v1, v6, v7, v9, v10, v11, v12, v13, rfl, r0, r1, r6, r7, r9, r10, r11, r12, r13, hb1⟩
  obtain ⟨va0, vl0, vc0, rfl⟩ := T.rd_slice r0
  obtain ⟨va1, vl1, vc1, rfl⟩ := T.rd_slice r1
  obtain ⟨va6, vl6, vc6, rfl⟩ := T.rd_slice r6
  obtain ⟨va7, vl7, vc7, rfl⟩ := T.rd_slice r7
  obtain ⟨va9, vl9, vc9, rfl⟩ := T.rd_slice r9
  obtain ⟨va10, vl10, vc10, rfl⟩ := T.rd_slice r10
  obtain ⟨va11, vl11, vc11, rfl⟩ := T.rd_slice r11
  obtain ⟨va12, vl12, vc12, rfl⟩ := T.rd_slice r12
  obtain ⟨va13, vl13, vc13, rfl⟩ := T.rd_slice r13
  have HB1 := hide hb1; have hs1 := hb1.size; clear hb1
  have R0 := hide r0; clear r0
  have R1 := hide r1; clear r1
  have R6 := hide r6; clear r6
  have R7 := hide r7; clear r7
  have R9 := hide r9; clear r9
  have R10 := hide r10; clear r10
  have R11 := hide r11; clear r11
  have R12 := hide r12; clear r12
  have R13 := hide r13; clear r13
  have HA1 := hide (show Below w1.heap.size w1 (w1.alloc (.cells #[(.slice va0 vl0 vc0), (.slice va1 vl1 vc1), .int .i64 8, .int .i64 1, .int .i64 2, .int .i64 1, (.slice va6 vl6 vc6), (.slice va7 vl7 vc7), .int .i64 100, (.slice va9 vl9 vc9), (.slice va10 vl10 vc10), (.slice va11 vl11 vc11), (.slice va12 vl12 vc12), (.slice va13 vl13 vc13)] 43)) from (Below.refl _ _).alloc (Nat.le_refl _) _)
  have KA1 := hide (Bk.born w1 43 #[(.slice va0 vl0 vc0), (.slice va1 vl1 vc1), .int .i64 8, .int .i64 1, .int .i64 2, .int .i64 1, (.slice va6 vl6 vc6), (.slice va7 vl7 vc7), .int .i64 100, (.slice va9 vl9 vc9), (.slice va10 vl10 vc10), (.slice va11 vl11 vc11), (.slice va12 vl12 vc12), (.slice va13 vl13 vc13)])
  go_wp2_with fail
  refine (c_iNewDesk _).mono ?_; rintro e w2 ⟨u0, F0, u1, F1, u6, F6, u7, F7, u9, F9, u10, F10, u11, F11, u12, F12, u13, F13, rfl, ho0, ho1, ho6, ho7, ho9, ho10, ho11, ho12, ho13, hsg, hb⟩
  obtain ⟨ua0, ul0, uc0, rfl⟩ := T.ow_slice ho0
  obtain ⟨ua1, ul1, uc1, rfl⟩ := T.ow_slice ho1
  obtain ⟨ua6, ul6, uc6, rfl⟩ := T.ow_slice ho6
  obtain ⟨ua7, ul7, uc7, rfl⟩ := T.ow_slice ho7
  obtain ⟨ua9, ul9, uc9, rfl⟩ := T.ow_slice ho9
  obtain ⟨ua10, ul10, uc10, rfl⟩ := T.ow_slice ho10
  obtain ⟨ua11, ul11, uc11, rfl⟩ := T.ow_slice ho11
  obtain ⟨ua12, ul12, uc12, rfl⟩ := T.ow_slice ho12
  obtain ⟨ua13, ul13, uc13, rfl⟩ := T.ow_slice ho13
  have hsz : (w1.alloc (.cells #[(.slice va0 vl0 vc0), (.slice va1 vl1 vc1), .int .i64 8, .int .i64 1, .int .i64 2, .int .i64 1, (.slice va6 vl6 vc6), (.slice va7 vl7 vc7), .int .i64 100, (.slice va9 vl9 vc9), (.slice va10 vl10 vc10), (.slice va11 vl11 vc11), (.slice va12 vl12 vc12), (.slice va13 vl13 vc13)] 43)).heap.size = w1.heap.size + 1 := by simp
  have hal := hsg.all
  have hs2 : w1.heap.size + 1 ≤ w2.heap.size := by have := hb.size; rwa [hsz] at this
  rw [hsz] at hal
  have hnd : (F0 ++ (F1 ++ (F6 ++ (F7 ++ (F9 ++ (F10 ++ (F11 ++ (F12 ++ (F13 ++ []))))))))).Nodup := hal.1
  have hlo : ∀ b ∈ (F0 ++ (F1 ++ (F6 ++ (F7 ++ (F9 ++ (F10 ++ (F11 ++ (F12 ++ (F13 ++ []))))))))), w1.heap.size + 1 ≤ b ∧ b < w2.heap.size := hal.2
  have KA2 := hide (KA1.out.below hb KA1.out.lt)
  have HA2 := hide (bthen HA1.out HA1.out.size hb)
  have HND := hide hnd; have HLO := hide hlo
  have O0_2 := hide ho0
  have O1_2 := hide ho1
  have O6_2 := hide ho6
  have O7_2 := hide ho7
  have O9_2 := hide ho9
  have O10_2 := hide ho10
  have O11_2 := hide ho11
  have O12_2 := hide ho12
  have O13_2 := hide ho13
  clear hb hsg hal hnd hlo hsz ho0 ho1 ho6 ho7 ho9 ho10 ho11 ho12 ho13
  have hw2 : Below w2.heap.size w2 (w2.alloc (.cells #[(.slice ua0 ul0 uc0), (.slice ua1 ul1 uc1), .int .i64 8, .int .i64 1, .int .i64 2, .int .i64 1, (.slice ua6 ul6 uc6), (.slice ua7 ul7 uc7), .int .i64 100, (.slice ua9 ul9 uc9), (.slice ua10 ul10 uc10), (.slice ua11 ul11 uc11), (.slice ua12 ul12 uc12), (.slice ua13 ul13 uc13)] 43)) := (Below.refl _ _).alloc (Nat.le_refl _) _
  have KB2 := hide (Bk.born w2 43 #[(.slice ua0 ul0 uc0), (.slice ua1 ul1 uc1), .int .i64 8, .int .i64 1, .int .i64 2, .int .i64 1, (.slice ua6 ul6 uc6), (.slice ua7 ul7 uc7), .int .i64 100, (.slice ua9 ul9 uc9), (.slice ua10 ul10 uc10), (.slice ua11 ul11 uc11), (.slice ua12 ul12 uc12), (.slice ua13 ul13 uc13)])
  have KA3 := hide (KA2.out.alloc (.cells #[(.slice ua0 ul0 uc0), (.slice ua1 ul1 uc1), .int .i64 8, .int .i64 1, .int .i64 2, .int .i64 1, (.slice ua6 ul6 uc6), (.slice ua7 ul7 uc7), .int .i64 100, (.slice ua9 ul9 uc9), (.slice ua10 ul10 uc10), (.slice ua11 ul11 uc11), (.slice ua12 ul12 uc12), (.slice ua13 ul13 uc13)] 43))
  have HA3 := hide (HA2.out.trans ((hw2.mono (show w1.heap.size ≤ w2.heap.size by omega))))
  have O0_3 := hide (T.ow_all O0_2.out hw2)
  have O1_3 := hide (T.ow_all O1_2.out hw2)
  have O6_3 := hide (T.ow_all O6_2.out hw2)
  have O7_3 := hide (T.ow_all O7_2.out hw2)
  have O9_3 := hide (T.ow_all O9_2.out hw2)
  have O10_3 := hide (T.ow_all O10_2.out hw2)
  have O11_3 := hide (T.ow_all O11_2.out hw2)
  have O12_3 := hide (T.ow_all O12_2.out hw2)
  have O13_3 := hide (T.ow_all O13_2.out hw2)
  have ka3 := KA3.out.cell; have kb3 := KB2.out.cell
  clear hw2
  have hlt12 : w1.heap.size < w2.heap.size := by omega
  go_wp2_with fail
  refine (c_eqDesk desk0 _ _ _ _ _ _ _ _ _ _ _ _ _ _ _ _ _ _ _ (T.ow_rd _ _ _ O0_3.out) (T.ow_rd _ _ _ O1_3.out) (T.ow_rd _ _ _ O6_3.out) (T.ow_rd _ _ _ O7_3.out) (T.ow_rd _ _ _ O9_3.out) (T.ow_rd _ _ _ O10_3.out) (T.ow_rd _ _ _ O11_3.out) (T.ow_rd _ _ _ O12_3.out) (T.ow_rd _ _ _ O13_3.out) (T.rd_below R0.out HA3.out) (T.rd_below R1.out HA3.out) (T.rd_below R6.out HA3.out) (T.rd_below R7.out HA3.out) (T.rd_below R9.out HA3.out) (T.rd_below R10.out HA3.out) (T.rd_below R11.out HA3.out) (T.rd_below R12.out HA3.out) (T.rd_below R13.out HA3.out)).mono ?_; rintro e w3 ⟨rfl, hb⟩
  have KB3 := KB2
  have KA4 := hide (KA3.out.below hb KA3.out.lt); have KB4 := hide (KB3.out.below hb KB3.out.lt); have HA4 := hide (bthen HA3.out HA3.out.size hb)
  have O0_4 := hide (T.ow_all O0_3.out hb)
  have O1_4 := hide (T.ow_all O1_3.out hb)
  have O6_4 := hide (T.ow_all O6_3.out hb)
  have O7_4 := hide (T.ow_all O7_3.out hb)
  have O9_4 := hide (T.ow_all O9_3.out hb)
  have O10_4 := hide (T.ow_all O10_3.out hb)
  have O11_4 := hide (T.ow_all O11_3.out hb)
  have O12_4 := hide (T.ow_all O12_3.out hb)
  have O13_4 := hide (T.ow_all O13_3.out hb)
  have hs4 := hb.size; clear hb
  have ka4 := KA4.out.cell; have kb4 := KB4.out.cell
  go_wp2_with fail
  refine (c_markDesk desk0 _ _ _ _ _ _ _ _ _ F0 F1 F6 F7 F9 F10 F11 F12 F13 1 _ (by omega) (by rw [desk0_cnt]; omega) O0_4.out O1_4.out O6_4.out O7_4.out O9_4.out O10_4.out O11_4.out O12_4.out O13_4.out HND.out).mono ?_; rintro e w5 ⟨rfl, hm0, hm1, hm6, hm7, hm9, hm10, hm11, hm12, hm13, hT⟩
  have KA5 := hide (KA4.out.trn hT (fun h => by have := (HLO.out _ h).1; omega)); have KB5 := hide (KB4.out.trn hT (fun h => by have := (HLO.out _ h).2; omega))
  have HA5 := hide (hT.below HA4.out (fun b h => by have := (HLO.out _ h).1; omega) HA4.out.size)
  have hs5 := hT.size; clear hT
  have ka5 := KA5.out.cell; have kb5 := KB5.out.cell
  have O0_5 := hide hm0; clear hm0
  have O1_5 := hide hm1; clear hm1
  have O6_5 := hide hm6; clear hm6
  have O7_5 := hide hm7; clear hm7
  have O9_5 := hide hm9; clear hm9
  have O10_5 := hide hm10; clear hm10
  have O11_5 := hide hm11; clear hm11
  have O12_5 := hide hm12; clear hm12
  have O13_5 := hide hm13; clear hm13
  rw [desk0_cnt]
  go_wp2_with fail
  refine (c_heldDesk desk0 _ _ _ _ _ _ _ _ _ 8 1 2 1 100 1 _ (by omega) (by rw [desk0_cnt]; omega) (T.ow_rd _ _ _ O0_5.out) (T.ow_rd _ _ _ O1_5.out) (T.ow_rd _ _ _ O6_5.out) (T.ow_rd _ _ _ O7_5.out) (T.ow_rd _ _ _ O9_5.out) (T.ow_rd _ _ _ O10_5.out) (T.ow_rd _ _ _ O11_5.out) (T.ow_rd _ _ _ O12_5.out) (T.ow_rd _ _ _ O13_5.out)).mono ?_; rintro e w6 ⟨rfl, hb⟩
  have KA6 := hide (KA5.out.below hb KA5.out.lt); have KB6 := hide (KB5.out.below hb KB5.out.lt); have HA6 := hide (bthen HA5.out HA5.out.size hb)
  have O0_6 := hide (T.ow_all O0_5.out hb)
  have O1_6 := hide (T.ow_all O1_5.out hb)
  have O6_6 := hide (T.ow_all O6_5.out hb)
  have O7_6 := hide (T.ow_all O7_5.out hb)
  have O9_6 := hide (T.ow_all O9_5.out hb)
  have O10_6 := hide (T.ow_all O10_5.out hb)
  have O11_6 := hide (T.ow_all O11_5.out hb)
  have O12_6 := hide (T.ow_all O12_5.out hb)
  have O13_6 := hide (T.ow_all O13_5.out hb)
  have hs6 := hb.size; clear hb
  have ka6 := KA6.out.cell; have kb6 := KB6.out.cell
  rw [desk0_cnt]
  go_wp2_with fail
  refine (c_iNewDesk _).mono ?_; rintro e w7 ⟨x0, H0, x1, H1, x6, H6, x7, H7, x9, H9, x10, H10, x11, H11, x12, H12, x13, H13, rfl, hh0, hh1, hh6, hh7, hh9, hh10, hh11, hh12, hh13, _, hb⟩
  obtain ⟨xa0, xl0, xc0, rfl⟩ := T.ow_slice hh0
  obtain ⟨xa1, xl1, xc1, rfl⟩ := T.ow_slice hh1
  obtain ⟨xa6, xl6, xc6, rfl⟩ := T.ow_slice hh6
  obtain ⟨xa7, xl7, xc7, rfl⟩ := T.ow_slice hh7
  obtain ⟨xa9, xl9, xc9, rfl⟩ := T.ow_slice hh9
  obtain ⟨xa10, xl10, xc10, rfl⟩ := T.ow_slice hh10
  obtain ⟨xa11, xl11, xc11, rfl⟩ := T.ow_slice hh11
  obtain ⟨xa12, xl12, xc12, rfl⟩ := T.ow_slice hh12
  obtain ⟨xa13, xl13, xc13, rfl⟩ := T.ow_slice hh13
  have KA7 := hide (KA6.out.below hb KA6.out.lt); have KB7 := hide (KB6.out.below hb KB6.out.lt); have HA7 := hide (bthen HA6.out HA6.out.size hb)
  have O0_7 := hide (T.ow_all O0_6.out hb)
  have O1_7 := hide (T.ow_all O1_6.out hb)
  have O6_7 := hide (T.ow_all O6_6.out hb)
  have O7_7 := hide (T.ow_all O7_6.out hb)
  have O9_7 := hide (T.ow_all O9_6.out hb)
  have O10_7 := hide (T.ow_all O10_6.out hb)
  have O11_7 := hide (T.ow_all O11_6.out hb)
  have O12_7 := hide (T.ow_all O12_6.out hb)
  have O13_7 := hide (T.ow_all O13_6.out hb)
  have hs7 := hb.size; clear hb
  have ka7 := KA7.out.cell; have kb7 := KB7.out.cell
  have hw7 : Below w7.heap.size w7 (w7.alloc (.cells #[(.slice xa0 xl0 xc0), (.slice xa1 xl1 xc1), .int .i64 8, .int .i64 1, .int .i64 2, .int .i64 1, (.slice xa6 xl6 xc6), (.slice xa7 xl7 xc7), .int .i64 100, (.slice xa9 xl9 xc9), (.slice xa10 xl10 xc10), (.slice xa11 xl11 xc11), (.slice xa12 xl12 xc12), (.slice xa13 xl13 xc13)] 43)) := (Below.refl _ _).alloc (Nat.le_refl _) _
  have KC8 := hide (Bk.born w7 43 #[(.slice xa0 xl0 xc0), (.slice xa1 xl1 xc1), .int .i64 8, .int .i64 1, .int .i64 2, .int .i64 1, (.slice xa6 xl6 xc6), (.slice xa7 xl7 xc7), .int .i64 100, (.slice xa9 xl9 xc9), (.slice xa10 xl10 xc10), (.slice xa11 xl11 xc11), (.slice xa12 xl12 xc12), (.slice xa13 xl13 xc13)])
  have KA8 := hide (KA7.out.alloc (.cells #[(.slice xa0 xl0 xc0), (.slice xa1 xl1 xc1), .int .i64 8, .int .i64 1, .int .i64 2, .int .i64 1, (.slice xa6 xl6 xc6), (.slice xa7 xl7 xc7), .int .i64 100, (.slice xa9 xl9 xc9), (.slice xa10 xl10 xc10), (.slice xa11 xl11 xc11), (.slice xa12 xl12 xc12), (.slice xa13 xl13 xc13)] 43)); have KB8 := hide (KB7.out.alloc (.cells #[(.slice xa0 xl0 xc0), (.slice xa1 xl1 xc1), .int .i64 8, .int .i64 1, .int .i64 2, .int .i64 1, (.slice xa6 xl6 xc6), (.slice xa7 xl7 xc7), .int .i64 100, (.slice xa9 xl9 xc9), (.slice xa10 xl10 xc10), (.slice xa11 xl11 xc11), (.slice xa12 xl12 xc12), (.slice xa13 xl13 xc13)] 43))
  have HA8 := hide (bthen HA7.out HA7.out.size hw7)
  have O0_8 := hide (T.ow_all O0_7.out hw7); have X0 := hide (T.ow_all hh0 hw7); clear hh0
  have O1_8 := hide (T.ow_all O1_7.out hw7); have X1 := hide (T.ow_all hh1 hw7); clear hh1
  have O6_8 := hide (T.ow_all O6_7.out hw7); have X6 := hide (T.ow_all hh6 hw7); clear hh6
  have O7_8 := hide (T.ow_all O7_7.out hw7); have X7 := hide (T.ow_all hh7 hw7); clear hh7
  have O9_8 := hide (T.ow_all O9_7.out hw7); have X9 := hide (T.ow_all hh9 hw7); clear hh9
  have O10_8 := hide (T.ow_all O10_7.out hw7); have X10 := hide (T.ow_all hh10 hw7); clear hh10
  have O11_8 := hide (T.ow_all O11_7.out hw7); have X11 := hide (T.ow_all hh11 hw7); clear hh11
  have O12_8 := hide (T.ow_all O12_7.out hw7); have X12 := hide (T.ow_all hh12 hw7); clear hh12
  have O13_8 := hide (T.ow_all O13_7.out hw7); have X13 := hide (T.ow_all hh13 hw7); clear hh13
  clear hw7
  have ka8 := KA8.out.cell; have kb8 := KB8.out.cell; have kc8 := KC8.out.cell
  have hlt17 : w1.heap.size < w7.heap.size := by have := KA7.out.lt; exact this
  have hlt27 : w2.heap.size < w7.heap.size := by have := KB7.out.lt; exact this
  go_wp2_with fail
  refine (c_eqDesk desk0 _ _ _ _ _ _ _ _ _ _ _ _ _ _ _ _ _ _ _ (T.ow_rd _ _ _ X0.out) (T.ow_rd _ _ _ X1.out) (T.ow_rd _ _ _ X6.out) (T.ow_rd _ _ _ X7.out) (T.ow_rd _ _ _ X9.out) (T.ow_rd _ _ _ X10.out) (T.ow_rd _ _ _ X11.out) (T.ow_rd _ _ _ X12.out) (T.ow_rd _ _ _ X13.out) (T.rd_below R0.out HA8.out) (T.rd_below R1.out HA8.out) (T.rd_below R6.out HA8.out) (T.rd_below R7.out HA8.out) (T.rd_below R9.out HA8.out) (T.rd_below R10.out HA8.out) (T.rd_below R11.out HA8.out) (T.rd_below R12.out HA8.out) (T.rd_below R13.out HA8.out)).mono ?_; rintro e w9 ⟨rfl, hb⟩
  have KA9 := hide (KA8.out.below hb KA8.out.lt); have KB9 := hide (KB8.out.below hb KB8.out.lt); have HA9 := hide (bthen HA8.out HA8.out.size hb)
  have O0_9 := hide (T.ow_all O0_8.out hb)
  have O1_9 := hide (T.ow_all O1_8.out hb)
  have O6_9 := hide (T.ow_all O6_8.out hb)
  have O7_9 := hide (T.ow_all O7_8.out hb)
  have O9_9 := hide (T.ow_all O9_8.out hb)
  have O10_9 := hide (T.ow_all O10_8.out hb)
  have O11_9 := hide (T.ow_all O11_8.out hb)
  have O12_9 := hide (T.ow_all O12_8.out hb)
  have O13_9 := hide (T.ow_all O13_8.out hb)
  have hs9 := hb.size; clear hb
  have ka9 := KA9.out.cell; have kb9 := KB9.out.cell
  go_wp2_with fail
  refine (c_heldDesk desk0 _ _ _ _ _ _ _ _ _ 8 1 2 1 100 1 _ (by omega) (by rw [desk0_cnt]; omega) (T.ow_rd _ _ _ O0_9.out) (T.ow_rd _ _ _ O1_9.out) (T.ow_rd _ _ _ O6_9.out) (T.ow_rd _ _ _ O7_9.out) (T.ow_rd _ _ _ O9_9.out) (T.ow_rd _ _ _ O10_9.out) (T.ow_rd _ _ _ O11_9.out) (T.ow_rd _ _ _ O12_9.out) (T.ow_rd _ _ _ O13_9.out)).mono ?_; rintro e w10 ⟨rfl, hb⟩
  have HA10 := hide (bthen HA9.out HA9.out.size hb); clear hb
  rw [desk0_cnt]
  go_wp2
  go_ret
  exact ⟨rfl, HB1.out.trans (HA10.out.mono HB1.out.size)⟩
end Go.Proofs.Ytjbcanihpcfncaa
