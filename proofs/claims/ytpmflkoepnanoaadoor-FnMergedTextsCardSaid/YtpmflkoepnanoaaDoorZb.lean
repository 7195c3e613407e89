/- Contract: the table of lengths, by the program. -/
import Derived.Test.YtpmflkoepnanoaaDoorZa
import Derived.Test.YtpmflkoepnanoaaDoorVa
import Derived.StillTailTactics
namespace Go.Proofs.YtpmflkoepnanoaaDoor
open Go.RowKit
theorem info_int : (Tryd.prog.info? 3).map (fun i => (i.zero, i.size, i.bytes)) = some (some (.int .i64 0), 1, 8) := by kernel_rfl
theorem info_sl : (Tryd.prog.info? 96).map (fun i => (i.zero, i.size, i.bytes)) = some (some (.slice none 0 0), 1, 24) := by kernel_rfl
set_option maxHeartbeats 4000000 in
set_option maxRecDepth 20000 in
theorem c_common (va vb : Value) (a b : List ByteArray) (w : World) (hra : RdS w va a) (hrb : RdS w vb b) (ha : a.length ≤ 200) (hb : b.length ≤ 200) :
    Calls Tryd.prog 84 #[va, vb] w fun e w' => ∃ (g : Nat) (R : Nat → Nat), e = .returned (.slice (some ⟨g, 0, none⟩) (a.length + 1) (a.length + 1)) ∧ Mat 3 96 w' g R (a.length + 1) (b.length + 1) (lenM a b) ∧ Below w.heap.size w w' := by
  obtain ⟨A1, cap1, rfl, hl1, hc1, hx1⟩ := hra.openS
  obtain ⟨A2, cap2, rfl, hl2, hc2, hx2⟩ := hrb.openS
  have HX1 := hide hx1; have HX2 := hide hx2; clear hx1 hx2 hra hrb
  obtain ⟨i1, hi1, hz10, hz11, hz12⟩ := info_parts info_sl
  obtain ⟨i2, hi2, hz20, hz21, hz22⟩ := info_parts info_int
  go_enter Tryd.func84, Tryd.ntmps84
  go_wp2_with (at_make; refine wpList_make_full _ rfl _ _ _ rfl w.heap.size 96 i1 _ 1 Tryd.underlying94 hi1 hz10 hz11 .i64 .i64 _ _ (a.length + 1) rfl rfl (by first | rfl | omega) (by first | rfl | omega) (by rw [hz12]; omega) (by unfold maxLen; omega) (Nat.le_refl _) ?_; intro w1 hown1 hg1)
  have hbk1 := own_bk hown1
  have hg1s := hbk1.lt
  have HB1 := hide ((Below.refl w.heap.size w).grown hg1 (Nat.le_refl _) (by simp))
  have HK1 := hide hbk1
  clear hown1 hg1 hbk1
  go_loopw [15] (fun iv wr => ∃ (k : Nat) (R : Nat → Nat), k ≤ a.length + 1 ∧ iv = .int .i64 (k : Int) ∧ Bk wr w.heap.size 96 (arrA (fun i => if i < k then .slice (some ⟨R i, 0, none⟩) (b.length + 1) (b.length + 1) else .slice none 0 0) (a.length + 1)) ∧ (∀ i, i < k → Bk wr (R i) 3 (arrA (fun _ => .int .i64 0) (b.length + 1))) ∧ (∀ i, i < k → w.heap.size < R i) ∧ (∀ i j, i < k → j < k → i ≠ j → R i ≠ R j) ∧ Below w.heap.size w wr) (fun iv _ => a.length + 1 - (intOf iv).toNat)
  case atStart => exact ⟨0, fun _ => 0, Nat.zero_le _, rfl, by simpa using HK1.out, by omega, by omega, by omega, HB1.out⟩
  case round =>
    obtain ⟨k, R, hk, rfl, hbo, hbr, hrg, hrd, hb⟩ := hrel
    have HBO := hide hbo; have HBR := hide hbr; have HRG := hide hrg; have HRD := hide hrd; have HB := hide hb; have hgl := hbo.lt
    clear hbo hbr hrg hrd hb
    by_cases hlt : k < a.length + 1
    · have hlt2 : (k : Int) < (a.length : Int) + 1 := by omega
      go_wp2_with (at_make; refine wpList_make_full _ rfl _ _ _ rfl wr.heap.size 3 i2 _ 1 Tryd.underlying96 hi2 hz20 hz21 .i64 .i64 _ _ (b.length + 1) rfl rfl (by first | rfl | omega) (by first | rfl | omega) (by rw [hz22]; omega) (by unfold maxLen; omega) (Nat.le_refl _) ?_; intro w2 hown2 hg2; have hbk2 := own_bk hown2; have hbe2 := (Below.refl wr.heap.size wr).grown hg2 (Nat.le_refl _) (by simp); have HBO2 := hide (HBO.out.below hbe2 hgl); have HE2 := hide hbe2; have HK2 := hide hbk2; have c1 := (HBO.out.below hbe2 hgl).cell k; have f1 := (HBO.out.below hbe2 hgl).free k; rw [arrA_at hlt, if_neg (Nat.lt_irrefl _)] at c1; clear hown2 hg2 hbk2 hbe2)
      go_roundw
      case rel =>
        refine ⟨k + 1, fun i => if i = k then wr.heap.size else R i, by omega, by go_num, ?_, ?_, ?_, ?_, (bthen HB.out HB.out.size HE2.out).setCell (Nat.le_refl _) _⟩
        · have := HBO2.out.set_ k (.slice (some ⟨wr.heap.size, 0, none⟩) (b.length + 1) (b.length + 1))
          rw [arrA_set, arrA_congr (W := fun i => if i < k + 1 then Value.slice (some ⟨if i = k then wr.heap.size else R i, 0, none⟩) (b.length + 1) (b.length + 1) else .slice none 0 0) (fun i _ => by
            by_cases h1 : i = k
            · subst h1; simp
            · by_cases h2 : i < k
              · simp [h1, h2, show i < k + 1 by omega]
              · simp [h1, h2, show ¬ i < k + 1 by omega])] at this
          exact this
        · intro i hi
          by_cases h1 : i = k
          · simp only [h1, if_true]
            exact HK2.out.far (by show wr.heap.size ≠ w.heap.size; omega) _
          · simp only [h1, if_false]
            have h2 : i < k := by omega
            exact ((HBR.out i h2).below HE2.out (HBR.out i h2).lt).far (by show R i ≠ w.heap.size; have := HRG.out i h2; omega) _
        · intro i hi
          by_cases h1 : i = k
          · simp only [h1, if_true]; exact hgl
          · simp only [h1, if_false]; exact HRG.out i (by omega)
        · intro i j hi hj hij
          by_cases h1 : i = k <;> by_cases h2 : j = k
          · omega
          · simp only [h1, h2, if_true, if_false]
            have := (HBR.out j (by omega)).lt; omega
          · simp only [h1, h2, if_true, if_false]
            have := (HBR.out i (by omega)).lt; omega
          · simp only [h1, h2, if_false]
            exact HRD.out i j (by omega) (by omega) hij
      case measure => simp [intOf]; omega
    · have HKE := hide (show k = a.length + 1 by omega)
      have hm0 : Mat 3 96 wr w.heap.size R (a.length + 1) (b.length + 1) (fun _ _ => 0) :=
        ⟨by rw [← arrA_congr (V := fun i => if i < a.length + 1 then Value.slice (some ⟨R i, 0, none⟩) (b.length + 1) (b.length + 1) else .slice none 0 0) (fun i hi => by simp [hi])]; have := HBO.out; rw [HKE.out] at this; exact this, fun i hi => HBR.out i (by have := HKE.out; omega), fun i hi => by have := HRG.out i (by have := HKE.out; omega); omega, fun i j hi hj => HRD.out i j (by have := HKE.out; omega) (by have := HKE.out; omega)⟩
      have HM0 := hide (hm0.congr MxF_start)
      clear hm0
      go_wp2_with fail
      generalize wr = wo at *
      go_loopw [7] (fun iv wr => ∃ I : Nat, I ≤ a.length ∧ iv = .int .i64 ((I : Int) - 1) ∧ Mat 3 96 wr w.heap.size R (a.length + 1) (b.length + 1) (MxF a b I (b.length + 1)) ∧ Below w.heap.size w wr) (fun iv _ => (intOf iv + 1).toNat)
      case atStart => exact ⟨a.length, Nat.le_refl _, rfl, HM0.out, HB.out⟩
      case round =>
        obtain ⟨I, hI, rfl, hm, hbw⟩ := hrel
        have HMM := hide hm; have HBW := hide hbw; clear hm hbw
        cases I with
        | zero =>
          go_wp2
          go_ret
          exact ⟨_, R, rfl, HMM.out.congr MxF_all, HBW.out⟩
        | succ i =>
          have hi1 : ((i + 1 : Nat) : Int) - 1 = (i : Int) := by omega
          rw [hi1]
          have HMI := hide (HMM.out.congr MxF_in)
          go_wp2_with fail
          generalize wr = wp at *
          go_loopw [8] (fun jv wr => ∃ J : Nat, J ≤ b.length ∧ jv = .int .i64 ((J : Int) - 1) ∧ Mat 3 96 wr w.heap.size R (a.length + 1) (b.length + 1) (MxF a b (i + 1) J) ∧ Below w.heap.size w wr) (fun jv _ => (intOf jv + 1).toNat)
          case atStart => exact ⟨b.length, Nat.le_refl _, rfl, HMI.out, HBW.out⟩
          case round =>
            obtain ⟨J, hJ, rfl, hm, hbw⟩ := hrel
            have HM2 := hide hm; have HBW2 := hide hbw
            cases J with
            | zero =>
              clear hm hbw
              go_wp2
              go_roundw
              case rel => exact ⟨i, by omega, by go_num, HM2.out.congr MxF_out, HBW2.out⟩
              case measure => first | (simp [intOf]; done) | (simp [intOf]; omega)
            | succ j =>
              have hj1 : ((j + 1 : Nat) : Int) - 1 = (j : Int) := by omega
              rw [hj1]
              have hia : i < a.length := by omega
              have hjb : j < b.length := by omega
              have hia3 : (i : Int) < (a.length : Int) := by omega
              have hjb3 : (j : Int) < (b.length : Int) := by omega
              have hia4 : (i : Int) < (a.length : Int) + 1 := by omega
              have hjb4 : (j : Int) < (b.length : Int) + 1 := by omega
              have hz1 : (0 : Int) ≤ (i : Int) + 1 := by omega
              have hz2 : (0 : Int) ≤ (j : Int) + 1 := by omega
              have hia5 : (i : Int) + 1 < (a.length : Int) + 1 := by omega
              have hjb5 : (j : Int) + 1 < (b.length : Int) + 1 := by omega
              have hxa : a[i]? = some a[i] := List.getElem?_eq_getElem hia
              have hyb : b[j]? = some b[j] := List.getElem?_eq_getElem hjb
              obtain ⟨ab, ao, rfl, hab, e1⟩ := HX1.out i _ hxa
              obtain ⟨bb, bo, rfl, hbb, e2⟩ := HX2.out j _ hyb
              have d1 := (HBW2.out.cell hab).trans e1
              have d2 := (HBW2.out.cell hbb).trans e2
              have HLE := hide (lenM_eq hxa hyb)
              have hb1 := lenM_bd a b (i + 1) (j + 1); have hb2 := lenM_bd a b (i + 1) j; have hb3 := lenM_bd a b i (j + 1)
              have q1 := hm.out (i := i) (by omega)
              have q2 := hm.out (i := i + 1) (by omega)
              have q3 := hm.at_ (i := i + 1) (j := j + 1) (by omega) (by omega)
              have q4 := hm.at_ (i := i + 1) (j := j) (by omega) (by omega)
              have q5 := hm.at_ (i := i) (j := j + 1) (by omega) (by omega)
              have q6 := hm.at_ (i := i) (j := j) (by omega) (by omega)
              have q7 := hm.free (i := i) (by omega) j
              rw [MxF_low] at q3 q4
              rw [MxF_right] at q5
              clear e1 e2 hm hbw hxa hyb
              generalize a[i] = x at *
              generalize b[j] = y at *
              generalize hv1 : lenM a b (i + 1) (j + 1) = v1 at *
              generalize hv2 : lenM a b (i + 1) j = v2 at *
              generalize hv3 : lenM a b i (j + 1) = v3 at *
              have hw1 : IntKind.i64.wrap ((i : Int) + 1) = (i : Int) + 1 := IntWalk.i64_in _ (by omega)
              have hw2 : IntKind.i64.wrap ((j : Int) + 1) = (j : Int) + 1 := IntWalk.i64_in _ (by omega)
              have hw3 : IntKind.i64.wrap (v1 + 1) = v1 + 1 := IntWalk.i64_in _ (by omega)
              have HV1 := hide hv1; have HV2 := hide hv2; have HV3 := hide hv3
              clear hv1 hv2 hv3
              have HMM2 := HM2
              have HRW := hide (show w.heap.size ≤ R i by have := HRG.out i (by have := HKE.out; omega); omega)
              by_cases hxy : x = y
              · have hxb : (x.toList == y.toList) = true := by rw [str_eq]; exact decide_eq_true hxy
                have HL := hide (HLE.out.trans (if_pos hxy))
                clear hxy
                go_wp2
                go_quiet (fail)
                go_wp2
                refine wp_region_still_tail 16 (by kernel_rfl) (by kernel_rfl) ?_
                simp only [List.take_succ_cons, List.take_zero, List.drop_succ_cons, List.drop_zero]
                change wpStill _ _ (World.drew (wr.drewN _)) (fun a' => wpList _ _ _ _ a' (World.drew (wr.drewN _))) _ _
                repeat still_step
                try refine wpStill_nil ?_
                have HST := hide (HMM2.out.set_ (i := i) (by omega) j (v1 + 1))
                go_wp2
                go_roundw
                case rel => exact ⟨j, by omega, by go_num, Mat.congr (M := fun r c => if r = i ∧ c = j then v1 + 1 else MxF a b (i + 1) (j + 1) r c) HST.out (fun r c hr hc => by rw [← MxF_step (i := i) (j := j) r c hr hc, HL.out]), by first | exact ((below_drewN HBW2.out _).setCell (HRW.out) _) | exact (below_drewN (HBW2.out.setCell (HRW.out) _) _) | exact (below_drewN (below_drewN (HBW2.out.setCell (HRW.out) _) _) _)⟩
                case measure => first | (simp [intOf]; done) | (simp [intOf]; omega)
              · have hxb : (x.toList == y.toList) = false := by rw [str_eq]; exact decide_eq_false hxy
                have HL := hide (HLE.out.trans (if_neg hxy))
                clear hxy
                go_wp2
                go_quiet (fail)
                go_wp2
                refine wp_region_still_tail 23 (by kernel_rfl) (by kernel_rfl) ?_
                simp only [List.take_succ_cons, List.take_zero, List.drop_succ_cons, List.drop_zero]
                change wpStill _ _ (World.drew (wr.drewN _)) (fun a' => wpList _ _ _ _ a' (World.drew (wr.drewN _))) _ _
                repeat still_step
                try refine wpStill_nil ?_
                have HST := hide (HMM2.out.set_ (i := i) (by omega) j (max v2 v3))
                go_wp2
                go_roundw
                case rel => exact ⟨j, by omega, by go_num, Mat.congr (M := fun r c => if r = i ∧ c = j then max v2 v3 else MxF a b (i + 1) (j + 1) r c) HST.out (fun r c hr hc => by rw [← MxF_step (i := i) (j := j) r c hr hc, HL.out]), by first | exact ((below_drewN HBW2.out _).setCell (HRW.out) _) | exact (below_drewN (HBW2.out.setCell (HRW.out) _) _) | exact (below_drewN (below_drewN (HBW2.out.setCell (HRW.out) _) _) _)⟩
                case measure => first | (simp [intOf]; done) | (simp [intOf]; omega)
end Go.Proofs.YtpmflkoepnanoaaDoor
