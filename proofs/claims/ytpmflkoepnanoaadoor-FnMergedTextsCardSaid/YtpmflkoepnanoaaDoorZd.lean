/- Contract: the table of lengths, by the reference. -/
import Derived.Test.YtpmflkoepnanoaaDoorZc
namespace Go.Proofs.YtpmflkoepnanoaaDoor
open Go.RowKit
theorem q_l00Max (x y : Int) (w : World) : Calls Tryd.prog 123 #[.int .i64 x, .int .i64 y] w fun e w' => e = .returned (.int .i64 (max x y)) ∧ w' = w :=
  (c_l00Max x y w).mono fun _ _ ⟨h1, h2⟩ => ⟨h1, h2.symm⟩
theorem MatP.drew_ {TI TO : TypeId} {w : World} {g n m k : Nat} {R : Nat → Nat} {M : Nat → Nat → Int} (h : MatP TI TO w g R n m k M) : MatP TI TO w.drew g R n m k M := h
theorem MatP.drewN_ {TI TO : TypeId} {w : World} {g n m k : Nat} {R : Nat → Nat} {M : Nat → Nat → Int} (h : MatP TI TO w g R n m k M) (q : Nat) : MatP TI TO (w.drewN q) g R n m k M := h
theorem below_drew1 {B : Nat} {a w : World} (h : Below B a w) : Below B a w.drew := ⟨h.os, h.tape, h.output, h.size, h.block⟩
def NxF (a b : List ByteArray) (i J r c : Nat) : Int := if r = i then (if J ≤ c then lenM a b i c else 0) else lenM a b r c
theorem NxF_start {a b : List ByteArray} {i : Nat} : ∀ r c, i ≤ r → r < a.length + 1 → c < b.length + 1 → (if r = i then (0 : Int) else lenM a b r c) = NxF a b i b.length r c := by
  intro r c _ hr hc
  unfold NxF
  by_cases h : r = i
  · rw [if_pos h, if_pos h]
    split
    · have : c = b.length := by omega
      rw [this, lenM_col]
    · rfl
  · rw [if_neg h, if_neg h]
theorem NxF_low {a b : List ByteArray} {i J c : Nat} : NxF a b i J (i + 1) c = lenM a b (i + 1) c := by
  unfold NxF; rw [if_neg (by omega)]
theorem NxF_right {a b : List ByteArray} {i J : Nat} : NxF a b i J i J = lenM a b i J := by
  unfold NxF; rw [if_pos rfl, if_pos (Nat.le_refl _)]
theorem NxF_out {a b : List ByteArray} {i : Nat} : ∀ r c, i ≤ r → r < a.length + 1 → c < b.length + 1 → NxF a b i 0 r c = lenM a b r c := by
  intro r c _ _ _
  unfold NxF
  by_cases h : r = i
  · rw [if_pos h, if_pos (Nat.zero_le _), h]
  · rw [if_neg h]
theorem NxF_step {a b : List ByteArray} {i j : Nat} (v : Int) (hv : v = lenM a b i j) (M : Nat → Nat → Int) (hM : ∀ r c, (r ≠ i ∨ c ≠ j) → M r c = NxF a b i (j + 1) r c) : ∀ r c, i ≤ r → r < a.length + 1 → c < b.length + 1 → (if r = i ∧ c = j then v else M r c) = NxF a b i j r c := by
  intro r c _ hr hc
  by_cases h : r = i ∧ c = j
  · rw [if_pos h, hv]; unfold NxF; rw [if_pos h.1, if_pos (by omega), h.2]
  · rw [if_neg h, hM r c (by omega)]
    unfold NxF
    by_cases h1 : r = i
    · rw [if_pos h1, if_pos h1]
      by_cases h2 : j + 1 ≤ c
      · rw [if_pos h2, if_pos (by omega)]
      · rw [if_neg h2, if_neg (by omega)]
    · rw [if_neg h1, if_neg h1]
set_option maxHeartbeats 4000000 in
set_option maxRecDepth 20000 in
theorem c_l32Common (va vb : Value) (a b : List ByteArray) (w : World) (hra : RdS w va a) (hrb : RdS w vb b) (ha : a.length ≤ 200) (hb : b.length ≤ 200) :
    Calls Tryd.prog 85 #[va, vb] w fun e w' => ∃ (g : Nat) (R : Nat → Nat), e = .returned (.slice (some ⟨g, 0, none⟩) (a.length + 1) (a.length + 1)) ∧ Mat 2 30 w' g R (a.length + 1) (b.length + 1) (lenM a b) ∧ Below w.heap.size w w' := by
  obtain ⟨A1, cap1, rfl, hl1, hc1, hx1⟩ := hra.openS
  obtain ⟨A2, cap2, rfl, hl2, hc2, hx2⟩ := hrb.openS
  have HX1 := hide hx1; have HX2 := hide hx2; clear hx1 hx2 hra hrb
  obtain ⟨i1, hi1, hz10, hz11, hz12⟩ := info_parts info_sl64
  obtain ⟨i2, hi2, hz20, hz21, hz22⟩ := info_parts info_i64'
  have hwa : IntKind.i64.wrap ((a.length : Int) - 1) = (a.length : Int) - 1 := IntWalk.i64_in _ (by omega)
  go_enter Tryd.func85, Tryd.ntmps85
  go_wp2_with (first
    | (at_make; refine wpList_make_full _ rfl _ _ _ rfl w.heap.size 30 i1 _ 1 Tryd.underlying97 hi1 hz10 hz11 .i64 .i64 _ _ (a.length + 1) rfl rfl (by first | rfl | omega) (by first | rfl | omega) (by rw [hz12]; omega) (by unfold maxLen; omega) (Nat.le_refl _) ?_; intro w1 hown1 hg1; have hbk1 := own_bk hown1; have hgl1 := hbk1.lt; have HB1 := hide ((Below.refl w.heap.size w).grown hg1 (Nat.le_refl _) (by simp)); have HK1 := hide hbk1; clear hown1 hg1 hbk1)
    | (at_make; refine wpList_make_full _ rfl _ _ _ rfl w1.heap.size 2 i2 _ 1 Tryd.underlying30 hi2 hz20 hz21 .i64 .i64 _ _ (b.length + 1) rfl rfl (by first | rfl | omega) (by first | rfl | omega) (by rw [hz22]; omega) (by unfold maxLen; omega) (Nat.le_refl _) ?_; intro w2 hown2 hg2; have hbk2 := own_bk hown2; have hbe2 := (Below.refl w1.heap.size w1).grown hg2 (Nat.le_refl _) (by simp); have c1 := (HK1.out.below hbe2 hgl1).cell a.length; have f1 := (HK1.out.below hbe2 hgl1).free a.length; rw [arrA_at (Nat.lt_succ_self _)] at c1; have HE2 := hide hbe2; have HK2 := hide hbk2; clear hown2 hg2 hbk2 hbe2))
  have hm0 : MatP 2 30 w1 w.heap.size (fun _ => 0) (a.length + 1) (b.length + 1) (a.length + 1) (lenM a b) :=
    ⟨by rw [← arrA_congr (V := fun _ => Value.slice none 0 0) (fun i hi => by rw [if_neg (by omega)])]; exact HK1.out, fun i h1 h2 => by omega, fun i h1 h2 => by omega, fun i j h1 h2 h3 => by omega⟩
  have hm1 := (hm0.row (Nat.lt_succ_self _) HE2.out HK2.out).congr (M' := lenM a b) (fun i j h1 h2 _ => by
    have : i = a.length := by omega
    rw [if_pos this, this, lenM_row])
  have HM1 := hide hm1
  have HBS := hide ((bthen HB1.out HB1.out.size HE2.out).setCell (Nat.le_refl w.heap.size) (p := ⟨w.heap.size, a.length, none⟩) (.slice (some ⟨w1.heap.size, 0, none⟩) (b.length + 1) (b.length + 1)))
  clear hm0 hm1
  generalize hG : (fun i => if i = a.length then w1.heap.size else (fun _ => 0) i) = R1 at HM1
  clear hG
  go_loopw [6] (fun iv wr => ∃ (I : Nat) (R : Nat → Nat), I ≤ a.length ∧ iv = .int .i64 ((I : Int) - 1) ∧ MatP 2 30 wr w.heap.size R (a.length + 1) (b.length + 1) I (lenM a b) ∧ Below w.heap.size w wr) (fun iv _ => (intOf iv + 1).toNat)
  case atStart => exact ⟨a.length, R1, Nat.le_refl _, rfl, HM1.out, HBS.out⟩
  case round =>
    obtain ⟨I, R, hI, rfl, hm, hbw⟩ := hrel
    have HMM := hide hm; have HBW := hide hbw
    clear HM1 HBS HB1 HE2 HK2 HK1
    cases I with
    | zero =>
      clear hm hbw
      go_wp2
      go_ret
      exact ⟨_, R, rfl, HMM.out.all, HBW.out⟩
    | succ i =>
      have hi1 : ((i + 1 : Nat) : Int) - 1 = (i : Int) := by omega
      rw [hi1]
      have hia : i < a.length := by omega
      have hia3 : (i : Int) < (a.length : Int) := by omega
      have hia4 : (i : Int) < (a.length : Int) + 1 := by omega
      have hgl := hm.1.lt
      clear hm hbw
      have hwb : IntKind.i64.wrap ((b.length : Int) - 1) = (b.length : Int) - 1 := IntWalk.i64_in _ (by omega)
      go_wp2_with (at_make; refine wpList_make_full _ rfl _ _ _ rfl wr.heap.size 2 i2 _ 1 Tryd.underlying30 hi2 hz20 hz21 .i64 .i64 _ _ (b.length + 1) rfl rfl (by first | rfl | omega) (by first | rfl | omega) (by rw [hz22]; omega) (by unfold maxLen; omega) (Nat.le_refl _) ?_; intro w3 hown3 hg3; have hbk3 := own_bk hown3; have hbe3 := (Below.refl wr.heap.size wr).grown hg3 (Nat.le_refl _) (by simp); have c2 := (HMM.out.1.below hbe3 hgl).cell i; have f2 := (HMM.out.1.below hbe3 hgl).free i; rw [arrA_at (by omega), if_neg (Nat.not_succ_le_self _)] at c2; have HE3 := hide hbe3; have HK3 := hide hbk3; clear hown3 hg3 hbk3 hbe3)
      have HMP := hide ((HMM.out.row (by omega) HE3.out HK3.out).congr NxF_start)
      have HBP := hide ((bthen HBW.out HBW.out.size HE3.out).setCell (Nat.le_refl w.heap.size) (p := ⟨w.heap.size, i, none⟩) (.slice (some ⟨wr.heap.size, 0, none⟩) (b.length + 1) (b.length + 1)))
      generalize (fun q => if q = i then wr.heap.size else R q) = R2 at HMP
      clear HMM HBW HE3 HK3
      generalize wr = wo at *
      go_loopw [7] (fun jv wr => ∃ J : Nat, J ≤ b.length ∧ jv = .int .i64 ((J : Int) - 1) ∧ MatP 2 30 wr w.heap.size R2 (a.length + 1) (b.length + 1) i (NxF a b i J) ∧ Below w.heap.size w wr) (fun jv _ => (intOf jv + 1).toNat)
      case atStart => exact ⟨b.length, Nat.le_refl _, rfl, HMP.out, HBP.out⟩
      case round =>
        obtain ⟨J, hJ, rfl, hm, hbw⟩ := hrel
        have HM2 := hide hm; have HBW2 := hide hbw
        cases J with
        | zero =>
          clear hm hbw
          go_wp2
          go_roundw
          case rel => exact ⟨i, R2, by omega, by go_num, HM2.out.congr NxF_out, HBW2.out⟩
          case measure => first | (simp [intOf]; done) | (simp [intOf]; omega)
        | succ j =>
          have hj1 : ((j + 1 : Nat) : Int) - 1 = (j : Int) := by omega
          rw [hj1]
          have hjb : j < b.length := by omega
          have hjb3 : (j : Int) < (b.length : Int) := by omega
          have hjb4 : (j : Int) < (b.length : Int) + 1 := by omega
          have hz1 : (0 : Int) ≤ (i : Int) + 1 := by omega
          have hz2 : (0 : Int) ≤ (j : Int) + 1 := by omega
          have hia5 : (i : Int) + 1 < (a.length : Int) + 1 := by omega
          have hjb5 : (j : Int) + 1 < (b.length : Int) + 1 := by omega
          have hxa : a[i]? = some a[i] := List.getElem?_eq_getElem hia
          have hyb : b[j]? = some b[j] := List.getElem?_eq_getElem hjb
          obtain ⟨ab, ao, rfl, hab, e1⟩ := HX1.out i _ hxa
          obtain ⟨bb, bo, rfl, hbb, e2⟩ := HX2.out j _ hyb
          have HLE := hide (lenM_eq hxa hyb)
          have hb1 := lenM_bd a b (i + 1) (j + 1); have hb2 := lenM_bd a b (i + 1) j; have hb3 := lenM_bd a b i (j + 1)
          have q1 := hm.out (i := i) (Nat.le_refl _) (by omega)
          have q2 := hm.out (i := i + 1) (by omega) (by omega)
          have q3 := hm.at_ (i := i + 1) (j := j + 1) (by omega) (by omega) (by omega)
          have q4 := hm.at_ (i := i + 1) (j := j) (by omega) (by omega) (by omega)
          have q5 := hm.at_ (i := i) (j := j + 1) (by omega) (by omega) (by omega)
          have q6 := hm.at_ (i := i) (j := j) (by omega) (by omega) (by omega)
          have q7 := hm.free (i := i) (Nat.le_refl _) (by omega) j
          rw [NxF_low] at q3 q4
          rw [NxF_right] at q5
          have HRW := hide (show w.heap.size ≤ R2 i by have := hm.2.2.1 i (Nat.le_refl _) (by omega); omega)
          clear hm hbw hxa hyb
          generalize a[i] = x at *
          generalize b[j] = y at *
          generalize hv1 : lenM a b (i + 1) (j + 1) = v1 at *
          generalize hv2 : lenM a b (i + 1) j = v2 at *
          generalize hv3 : lenM a b i (j + 1) = v3 at *
          have hw1 : IntKind.i64.wrap ((i : Int) + 1) = (i : Int) + 1 := IntWalk.i64_in _ (by omega)
          have hw2 : IntKind.i64.wrap ((j : Int) + 1) = (j : Int) + 1 := IntWalk.i64_in _ (by omega)
          have hw3 : IntKind.i64.wrap (v1 + 1) = v1 + 1 := IntWalk.i64_in _ (by omega)
          have HV1 := hide hv1; have HV2 := hide hv2; have HV3 := hide hv3
          clear hv1 hv2 hv3
          clear HMP HBP
          have HE1 := hide e1; have HE2 := hide e2
          clear e1 e2
          go_wp2
          refine wp_region_still_tail 23 (by kernel_rfl) (by kernel_rfl) ?_
          simp only [List.take_succ_cons, List.take_zero, List.drop_succ_cons, List.drop_zero]
          change wpStill _ _ (World.drew wr) (fun a' => wpList _ _ _ _ a' (World.drew wr)) _ _
          repeat still_step
          still_call (q_l00Max v2 v3 _)
          repeat still_step
          try refine wpStill_nil ?_
          have hmn := (HM2.out.set_ (i := i) (Nat.le_refl _) (by omega) j (max v2 v3)).drew_
          have hbn := below_drew1 (HBW2.out.setCell HRW.out (p := ⟨R2 i, j, none⟩) (.int .i64 (max v2 v3)))
          clear q1 q2 q3 q4 q5
          go_wp2
          clear q6 q7
          generalize hwn : World.drew (World.setCell wr ⟨R2 i, j, none⟩ (.int .i64 (max v2 v3))) = wn at *
          clear hwn HM2 HBW2
          have d1 := (hbn.cell hab).trans HE1.out
          have d2 := (hbn.cell hbb).trans HE2.out
          have q1 := hmn.out (i := i) (Nat.le_refl _) (by omega)
          have q2 := hmn.out (i := i + 1) (by omega) (by omega)
          have q3 := hmn.at_ (i := i + 1) (j := j + 1) (by omega) (by omega) (by omega)
          rw [if_neg (by omega), NxF_low, HV1.out] at q3
          have q6 := hmn.at_ (i := i) (j := j) (Nat.le_refl _) (by omega) (by omega)
          rw [if_pos ⟨rfl, rfl⟩] at q6
          have q7 := hmn.free (i := i) (Nat.le_refl _) (by omega) j
          have HMN := hide hmn; have HBN := hide hbn
          clear hmn hbn
          by_cases hxy : x = y
          · have hxb : (x.toList == y.toList) = true := by rw [str_eq]; exact decide_eq_true hxy
            have HL := hide (HLE.out.trans (if_pos hxy))
            clear hxy
            go_quiet (fail)
            go_wp2
            refine wp_region_still_tail 16 (by kernel_rfl) (by kernel_rfl) ?_
            simp only [List.take_succ_cons, List.take_zero, List.drop_succ_cons, List.drop_zero]
            change wpStill _ _ (World.drew (wn.drewN _)) (fun a' => wpList _ _ _ _ a' (World.drew (wn.drewN _))) _ _
            repeat still_step
            try refine wpStill_nil ?_
            have HST := hide (HMN.out.set_ (i := i) (Nat.le_refl _) (by omega) j (v1 + 1))
            go_wp2
            go_roundw
            case rel => exact ⟨j, by omega, by go_num, MatP.congr (M := fun r c => if r = i ∧ c = j then v1 + 1 else if r = i ∧ c = j then max v2 v3 else NxF a b i (j + 1) r c) HST.out (NxF_step _ HL.out.symm _ (fun r c h => if_neg (by omega))), by first | exact ((below_drewN HBN.out _).setCell (HRW.out) _) | exact (below_drewN (HBN.out.setCell (HRW.out) _) _) | exact (below_drewN (below_drewN (HBN.out.setCell (HRW.out) _) _) _)⟩
            case measure => first | (simp [intOf]; done) | (simp [intOf]; omega)
          · have hxb : (x.toList == y.toList) = false := by rw [str_eq]; exact decide_eq_false hxy
            have HL := hide (HLE.out.trans (if_neg hxy))
            clear hxy
            go_quiet (fail)
            go_wp2
            go_roundw
            case rel => exact ⟨j, by omega, by go_num, MatP.congr HMN.out (NxF_step _ HL.out.symm _ (fun r c h => rfl)), by first | exact HBN.out | exact below_drewN HBN.out _⟩
            case measure => first | (simp [intOf]; done) | (simp [intOf]; omega)
end Go.Proofs.YtpmflkoepnanoaaDoor
