/- Contracts: the places of frames, reference side. -/
import Derived.Test.YtopgjanpbfnlnaaFb
import Derived.Test.YtopgjanpbfnlnaaBc
namespace Go.Proofs.Ytopgjanpbfnlnaa
open Go.RowKit
/-- The places of k frames from a place on, behind those that are known; and the code. -/
def plF (s : ByteArray) : Nat → Nat → List Int → List Int × Int
  | 0, p, acc => if p = s.size then (acc ++ [(p : Int)], 0) else ([], 9)
  | k + 1, p, acc => if s.size < p + 2 ∨ s.size < p + 2 + numS s p then ([], 11) else plF s k (p + 2 + numS s p) (acc ++ [(p : Int)])
theorem plF_end {s : ByteArray} {p : Nat} {acc : List Int} (h : p = s.size) : plF s 0 p acc = (acc ++ [(p : Int)], 0) := by simp only [plF]; rw [if_pos h]
theorem plF_bad {s : ByteArray} {p : Nat} {acc : List Int} (h : p ≠ s.size) : plF s 0 p acc = ([], 9) := by simp only [plF]; rw [if_neg h]
theorem plF_cut {s : ByteArray} {k p : Nat} {acc : List Int} (h : s.size < p + 2 ∨ s.size < p + 2 + numS s p) : plF s (k + 1) p acc = ([], 11) := by simp only [plF]; rw [if_pos h]
theorem plF_go {s : ByteArray} {k p : Nat} {acc : List Int} (h : ¬ (s.size < p + 2 ∨ s.size < p + 2 + numS s p)) : plF s (k + 1) p acc = plF s k (p + 2 + numS s p) (acc ++ [(p : Int)]) := by simp only [plF]; rw [if_neg h]
/-- The places of a store, its samples, its frame size and the code. -/
def placesF (s : ByteArray) : List Int × Int := if (infoF s).2.2 = 0 then plF s (nch (numS s 6) (numS s 4)) 10 [] else ([], (infoF s).2.2)
theorem infoF_ok {s : ByteArray} (h : (infoF s).2.2 = 0) : infoF s = (((numS s 6 : Nat) : Int), ((numS s 4 : Nat) : Int), 0) ∧ 10 ≤ s.size ∧ numS s 6 ≤ 4000 ∧ 16 ≤ numS s 4 ∧ numS s 4 ≤ 256 := by
  unfold infoF at *
  split at h
  · simp at h
  · rename_i h10
    rw [if_neg h10]
    split at h
    · simp at h
    · rename_i h4
      rw [if_neg h4]
      split at h
      · simp at h
      · rename_i h8
        rw [if_neg h8]
        split at h
        · rename_i hok
          rw [if_pos hok]
          unfold okB at hok
          simp only [Bool.and_eq_true, decide_eq_true_eq] at hok
          have := inB_true.1 hok.1
          exact ⟨rfl, by omega, hok.2, by omega, by omega⟩
        · simp at h
theorem infoF_no {s : ByteArray} (h : (infoF s).2.2 ≠ 0) : (infoF s).1 = 0 ∧ (infoF s).2.1 = 0 ∧ 0 ≤ (infoF s).2.2 ∧ (infoF s).2.2 ≤ 11 := by
  unfold infoF at *
  repeat' split
  all_goals simp_all
set_option maxHeartbeats 400000 in
theorem c_l30Frames (n f : Nat) (w : World) (hn : n ≤ 4000) (hf : 16 ≤ f ∧ f ≤ 256) : Calls Try.prog 112 #[.int .i64 (n : Int), .int .i64 (f : Int)] w fun e w' => e = .returned (.int .i64 ((nch n f : Nat) : Int)) ∧ w = w' := by
  have HE := hide (show ((n : Int) + (f : Int) - 1) / (f : Int) = ((nch n f : Nat) : Int) by
    unfold nch
    have : (n : Int) + (f : Int) - 1 = ((n + f - 1 : Nat) : Int) := by omega
    rw [this]; exact (Int.natCast_ediv _ _).symm)
  have hz : ((f : Int) == 0) = false := by simp; omega
  go_enter Try.func112, Try.ntmps112
  go_wp2
  go_ret
  exact ⟨ret_int HE.out, rfl⟩
def PlR (s : ByteArray) (w : World) (e : Ending) (w' : World) : Prop := ∃ v, e = .returned (.tuple #[v, .int .i64 (if (placesF s).2 = 0 then (infoF s).1 else 0), .int .i64 (if (placesF s).2 = 0 then (infoF s).2.1 else 0), .int .i64 (placesF s).2]) ∧ OwI 2 w' w.heap.size v (placesF s).1 ∧ Below w.heap.size w w'
theorem PlR.mk0 {s : ByteArray} {w w' : World} {v : Value} {xs : List Int} {a b : Int} (hp : placesF s = (xs, 0)) (hi : infoF s = (a, b, 0)) (ho : OwI 2 w' w.heap.size v xs) (hb : Below w.heap.size w w') :
    PlR s w (.returned (.tuple #[v, .int .i64 a, .int .i64 b, .int .i64 0])) w' := ⟨v, by rw [hp, hi]; rfl, by rw [hp]; exact ho, hb⟩
theorem PlR.mkE {s : ByteArray} {w w' : World} {c : Int} (hp : placesF s = ([], c)) (hc : c ≠ 0) (hb : Below w.heap.size w w') :
    PlR s w (.returned (.tuple #[.slice none 0 0, .int .i64 0, .int .i64 0, .int .i64 c])) w' := ⟨.slice none 0 0, by rw [hp]; simp [hc], by rw [hp]; exact ⟨rfl, .inl ⟨rfl, rfl⟩⟩, hb⟩
theorem results_tmp4 {fn : Func} {t u v x : Tmp} (h : fn.results = #[.tmp t, .tmp u, .tmp v, .tmp x]) (tmps : Array Value) (P : Program) (w : World) :
    (results fn tmps).run P w = .ok (.tuple #[tmps.getD t undef, tmps.getD u undef, tmps.getD v undef, tmps.getD x undef]) w := by simp [results, h]
theorem own_one (E : TypeId) (w : World) (B : Nat) (hB : B ≤ w.heap.size) (n : Int) : OwI E (w.alloc (.cells #[.int .i64 n] E)) B (.slice (some ⟨w.heap.size, 0, none⟩) 1 1) [n] :=
  ⟨by simp, .inr ⟨w.heap.size, 1, #[.int .i64 n], rfl, hB, heap_alloc_new w _, Nat.le_refl _, by decide, by simp, by simp⟩⟩
set_option maxHeartbeats 1000000 in
set_option maxRecDepth 100000 in
theorem c_l30Places (s : ByteArray) (w : World) (hs : s.size ≤ 1073741824) : Calls Try.prog 68 #[.string s] w (PlR s w) := by
  by_cases hc : (infoF s).2.2 = 0
  · obtain ⟨hinf, h10, hn, hf1, hf2⟩ := infoF_ok hc
    have hpl : placesF s = plF s (nch (numS s 6) (numS s 4)) 10 [] := by unfold placesF; rw [if_pos hc]
    clear hc
    generalize numS s 6 = n at *
    generalize numS s 4 = f at *
    have hk0 : nch n f ≤ 300 := by unfold nch; exact Nat.div_le_of_le_mul (by have := Nat.mul_le_mul_right 300 hf1; omega)
    generalize hkn : nch n f = kn at *
    have HIN := hide hinf; clear hinf
    have HPL := hide hpl; clear hpl
    go_enter Try.func68, Try.ntmps68
    go_wp2_with fail
    refine (c_sStoreInfo s _ hs).mono ?_; rintro e w1 ⟨rfl, hb1⟩; rw [HIN.out]
    have HB1 := hide hb1; clear hb1
    go_wp2_with fail
    refine (c_l30Frames n f _ hn ⟨hf1, hf2⟩).mono ?_; rintro e w' ⟨rfl, rfl⟩; rw [hkn]
    go_wp2_with fail
    go_loopw [10, 11, 12] (fun p t k wr => ∃ (kk pp : Nat) (acc : List Int), p = .int .i64 (pp : Int) ∧ k = .int .i64 (kk : Int) ∧ kk ≤ kn ∧ acc.length + kk = kn ∧ pp ≤ s.size ∧ plF s kk pp acc = plF s kn 10 [] ∧ OwI 2 wr w.heap.size t (acc ++ [(pp : Int)]) ∧ Below w.heap.size w wr) (fun _ _ k _ => (intOf k).toNat)
    case atStart =>
      exact ⟨kn, 10, [], rfl, rfl, Nat.le_refl _, by simp, h10, rfl, own_one _ _ _ HB1.out.size _, HB1.out.alloc HB1.out.size _⟩
    case round =>
      obtain ⟨kk, pp, acc, rfl, rfl, hkk, hal, hpp, hpl, ho, hb⟩ := hrel
      have HO := hide ho; have HB := hide hb; have HQ := hide hpl; clear ho hb hpl
      by_cases hk : 0 < kk
      · obtain ⟨kk, rfl⟩ : ∃ j, kk = j + 1 := ⟨kk - 1, by omega⟩
        by_cases hz1 : s.size < pp + 2
        · go_wp2
          refine bodyPost_ret (results_tmp4 rfl _ _ _) rfl ?_
          rw [plF_cut (.inl hz1)] at HQ
          exact PlR.mkE (HPL.out.trans HQ.out.symm) (by decide) HB.out
        · have hb16 := numS_lt s pp
          by_cases hz2 : s.size < pp + 2 + numS s pp
          · have HC := hide (plF_cut (k := kk) (acc := acc) (.inr hz2))
            generalize hnm : numS s pp = nm at *
            have HNM := hide hnm; clear hnm
            go_wp2_with fail
            refine (c_l29At s pp _ (by omega) hs).mono ?_; rintro e _ ⟨rfl, n1, rfl⟩
            rw [HNM.out]
            go_wp2
            refine bodyPost_ret (results_tmp4 rfl _ _ _) rfl ?_
            rw [HC.out] at HQ
            exact PlR.mkE (HPL.out.trans HQ.out.symm) (by decide) (below_drewN HB.out _)
          · have HC := hide (plF_go (k := kk) (acc := acc) (show ¬ (s.size < pp + 2 ∨ s.size < pp + 2 + numS s pp) by omega))
            generalize hnm : numS s pp = nm at *
            have HNM := hide hnm; clear hnm
            have hal2 : (acc ++ [(pp : Int)]).length ≤ 400 := by simp; omega
            have HAL := hide hal2; clear hal2
            have HS1 := hide (show ((pp : Int) + (2 + (nm : Int))) = ((pp + 2 + nm : Nat) : Int) by omega)
            go_wp2_with fail
            refine (c_l29At s pp _ (by omega) hs).mono ?_; rintro e _ ⟨rfl, n1, rfl⟩
            rw [HNM.out]
            go_wp2_with fail
            refine (c_l29At s pp _ (by omega) hs).mono ?_; rintro e _ ⟨rfl, n2, rfl⟩
            rw [HNM.out]
            rw [HC.out] at HQ
            have hsz : w.heap.size ≤ (wr.drewN (n1 + n2)).heap.size := HB.out.size
            have HO' : Sec (OwI 2 (wr.drewN (n1 + n2)) w.heap.size u11 (acc ++ [(pp : Int)])) := HO
            have HB' : Sec (Below w.heap.size w (wr.drewN (n1 + n2))) := ⟨below_drewN HB.out _⟩
            go_wp2_with (at_builtin; refine app1_i64 rfl _ _ rfl rfl HO'.out rfl (by have := HAL.out; omega) hsz ?_; intro v1 w2 ho1 hg1 hv1; have hb1 := below_own HB'.out HO'.out hg1 (Nat.le_refl _) hsz; have HO1 := hide ho1; have HB2 := hide hb1; clear ho1 hb1 hg1 hv1)
            go_roundw
            case rel => exact ⟨kk, pp + 2 + nm, acc ++ [(pp : Int)], by go_num, by go_num, by omega, by simp; omega, by omega, HQ.out, by have := HO1.out; rw [HS1.out] at this; exact this, HB2.out⟩
            case measure => simp [intOf]
      · obtain rfl : kk = 0 := by omega
        by_cases hz : pp = s.size
        · go_wp2
          refine bodyPost_ret (results_tmp4 rfl _ _ _) rfl ?_
          rw [plF_end hz] at HQ
          exact PlR.mk0 (HPL.out.trans HQ.out.symm) HIN.out HO.out HB.out
        · go_wp2
          refine bodyPost_ret (results_tmp4 rfl _ _ _) rfl ?_
          rw [plF_bad hz] at HQ
          exact PlR.mkE (HPL.out.trans HQ.out.symm) (by decide) HB.out
  · have hp : placesF s = ([], (infoF s).2.2) := by unfold placesF; rw [if_neg hc]
    have hbd := infoF_no hc
    have HP := hide hp; clear hp
    generalize hin : infoF s = inf at *
    have HIN := hide hin; clear hin
    have ht : (inf.2.2 != 0) = true := by simp; exact hc
    have HC := hide hc; clear hc
    go_enter Try.func68, Try.ntmps68
    go_wp2_with fail
    refine (c_sStoreInfo s _ hs).mono ?_; rintro e w1 ⟨rfl, hb1⟩; rw [HIN.out]
    have HB1 := hide hb1; clear hb1
    go_wp2
    refine bodyPost_ret (results_tmp4 rfl _ _ _) rfl ?_
    exact PlR.mkE HP.out HC.out HB1.out
/-- The contract of FramesOf. -/
def FrO (s : ByteArray) (w : World) (e : Ending) (w' : World) : Prop := ∃ v, e = .returned (.tuple #[v, .int .i64 (placesF s).2]) ∧ OwI 2 w' w.heap.size v (placesF s).1 ∧ Below w.heap.size w w'
set_option maxHeartbeats 400000 in
theorem c_sFramesOf (s : ByteArray) (w : World) (hs : s.size ≤ 1073741824) : Calls Try.prog 27 #[.string s] w (FrO s w) := by
  go_enter Try.func27, Try.ntmps27
  go_wp2_with fail
  refine (c_l30Places s _ hs).mono ?_; rintro e w1 ⟨v, rfl, ho, hb⟩
  have HO := hide ho; have HB := hide hb; clear ho hb
  generalize (if (placesF s).2 = 0 then (infoF s).1 else 0) = na
  generalize (if (placesF s).2 = 0 then (infoF s).2.1 else 0) = fa
  generalize hcc : (placesF s).2 = cc
  have HCC := hide hcc; clear hcc
  go_wp2
  go_ret2
  exact ⟨v, by rw [HCC.out]; rfl, HO.out, HB.out⟩
end Go.Proofs.Ytopgjanpbfnlnaa
