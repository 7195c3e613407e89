/- Contracts: a store that is opened, its frames' places; the other side. -/
import Derived.Test.YtopgjanpbfnlnaaGa
import Derived.Test.YtopgjanpbfnlnaaLk
namespace Go.Proofs.Ytopgjanpbfnlnaa
open Go.RowKit
theorem nch_lt {n f j : Nat} (hf : 16 ≤ f) : j < nch n f ↔ j * f < n := by
  unfold nch
  rw [← Nat.succ_le_iff, Nat.le_div_iff_mul_le (by omega), Nat.succ_mul]
  omega
/-- The contract of openStore: text, samples, frame size, places; the code. -/
def OsR (s : ByteArray) (w : World) (e : Ending) (w' : World) : Prop := ∃ (v : Value) (t : ByteArray) (n f c : Int), e = .returned (.tuple #[.agg #[.string t, .int .i64 n, .int .i64 f, v], .int .i64 c]) ∧ c = (placesF s).2 ∧ (c = 0 → t = s ∧ n = (infoF s).1 ∧ f = (infoF s).2.1) ∧ OwI 2 w' w.heap.size v (placesF s).1 ∧ Below w.heap.size w w'
theorem OsR.mkE {s : ByteArray} {w w' : World} {t : ByteArray} {n f c : Int} (hp : placesF s = ([], c)) (hc : c ≠ 0) (hb : Below w.heap.size w w') :
    OsR s w (.returned (.tuple #[.agg #[.string t, .int .i64 n, .int .i64 f, .slice none 0 0], .int .i64 c])) w' := ⟨_, _, _, _, _, rfl, by rw [hp], fun h => absurd h hc, by rw [hp]; exact OwI.nil_ _ _ _, hb⟩
theorem OsR.mk0 {s : ByteArray} {w w' : World} {v : Value} {n f : Int} {xs : List Int} (hp : placesF s = (xs, 0)) (hi : infoF s = (n, f, 0)) (ho : OwI 2 w' w.heap.size v xs) (hb : Below w.heap.size w w') :
    OsR s w (.returned (.tuple #[.agg #[.string s, .int .i64 n, .int .i64 f, v], .int .i64 0])) w' := ⟨_, _, _, _, _, rfl, by rw [hp], fun _ => ⟨rfl, by rw [hi], by rw [hi]⟩, by rw [hp]; exact ho, hb⟩
set_option maxHeartbeats 1000000 in
set_option maxRecDepth 100000 in
theorem c_openStore (s : ByteArray) (w : World) (hs : s.size ≤ 1073741824) : Calls Try.prog 69 #[.string s] w (OsR s w) := by
  by_cases hc : (infoF s).2.2 = 0
  · obtain ⟨hinf, h10, hn, hf1, hf2⟩ := infoF_ok hc
    have hpl : placesF s = plF s (nch (numS s 6) (numS s 4)) 10 [] := by unfold placesF; rw [if_pos hc]
    clear hc
    generalize numS s 6 = n at *
    generalize numS s 4 = f at *
    have hk0 : nch n f ≤ 300 := by unfold nch; exact Nat.div_le_of_le_mul (by have := Nat.mul_le_mul_right 300 hf1; omega)
    have hkl : ∀ j, j < nch n f ↔ j * f < n := fun j => nch_lt hf1
    generalize nch n f = kn at *
    have HKL := hide hkl; clear hkl
    have HIN := hide hinf; clear hinf
    have HPL := hide hpl; clear hpl
    go_enter Try.func69, Try.ntmps69
    go_wp2_with fail
    refine (c_iStoreInfo s _ hs).mono ?_; rintro e w1 ⟨rfl, hb1⟩; rw [HIN.out]
    have hbk := (Bk.born _ _ _).below hb1 (Bk.born _ _ _).lt
    have HK := hide hbk; clear hbk
    have hbw := below_of_alloc hb1
    have hsz := hbw.size
    have hA := HK.out.lt
    have HBW := hide hbw; clear hbw hb1
    go_wp2_with fail
    go_loopw [8, 10] (fun p i wr => ∃ (kk pp iv : Nat) (acc : List Int) (t : Value), p = .int .i64 (pp : Int) ∧ i = .int .i64 (iv : Int) ∧ kk ≤ kn ∧ iv = (kn - kk) * f ∧ acc.length + kk = kn ∧ pp ≤ s.size ∧ plF s kk pp acc = plF s kn 10 [] ∧ Bk wr w1.heap.size 60 #[.string s, .int .i64 n, .int .i64 f, t] ∧ OwI 2 wr (w1.heap.size + 1) t acc ∧ Bk wr w.heap.size 60 #[.string ⟨#[]⟩, .int .i64 0, .int .i64 0, .slice none 0 0] ∧ Below w.heap.size w wr) (fun _ i _ => 8000 - (intOf i).toNat)
    case atStart => exact ⟨kn, 10, 0, [], _, rfl, rfl, Nat.le_refl _, by simp, by simp, h10, rfl, Bk.born _ _ _, OwI.nil_ _ _ _, HK.out.alloc _, HBW.out.alloc hsz _⟩
    case round =>
      obtain ⟨kk, pp, iv, acc, t, rfl, rfl, hkk, hiv, hal, hpp, hpl, hbs, ho, hba, hb⟩ := hrel
      have hS := hbs.lt
      have c0 := hbs.cell 0; have c1 := hbs.cell 1; have c2 := hbs.cell 2; have c3 := hbs.cell 3
      have g0 := hbs.free 0; have g1 := hbs.free 1; have g2 := hbs.free 2; have g3 := hbs.free 3
      simp at c0 c1 c2 c3
      have k0 := hba.cell 0; have k1 := hba.cell 1; have k2 := hba.cell 2; have k3 := hba.cell 3
      have f0 := hba.free 0; have f1 := hba.free 1; have f2 := hba.free 2; have f3 := hba.free 3
      simp at k0 k1 k2 k3
      have hloop := HKL.out (kn - kk)
      rw [← hiv] at hloop
      have hne : some w1.heap.size ≠ t.ownBlock := fun e => by have := (ho.lt _ e.symm).1; omega
      have hneA : some w.heap.size ≠ t.ownBlock := fun e => by have := (ho.lt _ e.symm).1; omega
      have HO := hide ho; have HB := hide hb; have HQ := hide hpl; have HBS := hide hbs; have HBA := hide hba; have HIV := hide hiv; clear ho hb hpl hbs hba hiv
      have hAL : acc.length + 1 ≤ 17592186044416 := by omega
      have hB1 : w.heap.size ≤ w1.heap.size + 1 := by omega
      have hB2 : w.heap.size ≤ wr.heap.size := by omega
      by_cases hk : 0 < kk
      · have hlt : iv < n := hloop.1 (by omega)
        clear hloop
        obtain ⟨kk, rfl⟩ : ∃ j, kk = j + 1 := ⟨kk - 1, by omega⟩
        by_cases hz1 : s.size < pp + 2
        · rw [plF_cut (.inl hz1)] at HQ
          go_wp2_with (at_builtin; refine app1_i64 rfl _ _ rfl rfl HO.out rfl hAL hS ?_; intro v1 w2 ho1 hg1 hv1; obtain ⟨gb, cap, rfl, _, _, _⟩ := ho1.form (by simp); simp only [List.length_append, List.length_singleton] at ho1 hg1; have hb2 := below_own HB.out HO.out hg1 hB1 hB2; have hbs2 := HBS.out.grown hg1 hne; have hba2 := HBA.out.grown hg1 hneA; have d0 := hbs2.cell 0; have d1 := hbs2.cell 1; have d2 := hbs2.cell 2; have d3 := hbs2.cell 3; have e0 := hbs2.free 0; have e1 := hbs2.free 1; have e2 := hbs2.free 2; have e3 := hbs2.free 3; simp at d0 d1 d2 d3; have l0 := hba2.cell 0; have l1 := hba2.cell 1; have l2 := hba2.cell 2; have l3 := hba2.cell 3; have m0 := hba2.free 0; have m1 := hba2.free 1; have m2 := hba2.free 2; have m3 := hba2.free 3; simp at l0 l1 l2 l3; have hvb : w1.heap.size + 1 ≤ gb := (ho1.lt gb rfl).1; have HO2 := hide ho1; have HB2 := hide hb2; have HBS2 := hide hbs2; have HBA2 := hide hba2; clear ho1 hb2 hbs2 hba2 hg1 hv1 c0 c1 c2 c3 g0 g1 g2 g3 k0 k1 k2 k3 f0 f1 f2 f3)
          refine bodyPost_ret (v := .tuple #[.agg #[.string ⟨#[]⟩, .int .i64 0, .int .i64 0, .slice none 0 0], .int .i64 11]) (by simp [results, Try.results69, go_sem, l0, l1, l2, l3, m0, m1, m2, m3]) rfl ?_
          exact OsR.mkE (HPL.out.trans HQ.out.symm) (by decide) (((((HB2.out.setCell hsz _).setCell (Nat.le_refl _) _).setCell (Nat.le_refl _) _).setCell (Nat.le_refl _) _).setCell (Nat.le_refl _) _)
        · have hb16 := numS_lt s pp
          by_cases hz2 : s.size < pp + 2 + numS s pp
          · rw [plF_cut (.inr hz2)] at HQ
            generalize hnm : numS s pp = nm at *
            have HNM := hide hnm; clear hnm
            go_wp2_with (at_builtin; refine app1_i64 rfl _ _ rfl rfl HO.out rfl hAL hS ?_; intro v1 w2 ho1 hg1 hv1; obtain ⟨gb, cap, rfl, _, _, _⟩ := ho1.form (by simp); simp only [List.length_append, List.length_singleton] at ho1 hg1; have hb2 := below_own HB.out HO.out hg1 hB1 hB2; have hbs2 := HBS.out.grown hg1 hne; have hba2 := HBA.out.grown hg1 hneA; have d0 := hbs2.cell 0; have d1 := hbs2.cell 1; have d2 := hbs2.cell 2; have d3 := hbs2.cell 3; have e0 := hbs2.free 0; have e1 := hbs2.free 1; have e2 := hbs2.free 2; have e3 := hbs2.free 3; simp at d0 d1 d2 d3; have l0 := hba2.cell 0; have l1 := hba2.cell 1; have l2 := hba2.cell 2; have l3 := hba2.cell 3; have m0 := hba2.free 0; have m1 := hba2.free 1; have m2 := hba2.free 2; have m3 := hba2.free 3; simp at l0 l1 l2 l3; have hvb : w1.heap.size + 1 ≤ gb := (ho1.lt gb rfl).1; have HO2 := hide ho1; have HB2 := hide hb2; have HBS2 := hide hbs2; have HBA2 := hide hba2; clear ho1 hb2 hbs2 hba2 hg1 hv1 c0 c1 c2 c3 g0 g1 g2 g3 k0 k1 k2 k3 f0 f1 f2 f3)
            refine (c_numberAt s pp _ (by omega) hs).mono ?_; rintro e _ ⟨rfl, n1, rfl⟩
            rw [HNM.out]
            go_wp2
            refine bodyPost_ret (v := .tuple #[.agg #[.string ⟨#[]⟩, .int .i64 0, .int .i64 0, .slice none 0 0], .int .i64 11]) (by simp [results, Try.results69, go_sem, l0, l1, l2, l3, m0, m1, m2, m3]) rfl ?_
            exact OsR.mkE (HPL.out.trans HQ.out.symm) (by decide) (((((below_drewN (HB2.out.setCell hsz _) _).setCell (Nat.le_refl _) _).setCell (Nat.le_refl _) _).setCell (Nat.le_refl _) _).setCell (Nat.le_refl _) _)
          · rw [plF_go (show ¬ (s.size < pp + 2 ∨ s.size < pp + 2 + numS s pp) by omega)] at HQ
            generalize hnm : numS s pp = nm at *
            have HNM := hide hnm; clear hnm
            have hal2 : (acc ++ [(pp : Int)]).length + kk = kn := by simp; omega
            have HAL := hide hal2; clear hal2
            have HS1 := hide (show ((pp : Int) + (2 + (nm : Int))) = ((pp + 2 + nm : Nat) : Int) by omega)
            go_wp2_with (at_builtin; refine app1_i64 rfl _ _ rfl rfl HO.out rfl hAL hS ?_; intro v1 w2 ho1 hg1 hv1; obtain ⟨gb, cap, rfl, _, _, _⟩ := ho1.form (by simp); simp only [List.length_append, List.length_singleton] at ho1 hg1; have hb2 := below_own HB.out HO.out hg1 hB1 hB2; have hbs2 := HBS.out.grown hg1 hne; have hba2 := HBA.out.grown hg1 hneA; have d0 := hbs2.cell 0; have d1 := hbs2.cell 1; have d2 := hbs2.cell 2; have d3 := hbs2.cell 3; have e0 := hbs2.free 0; have e1 := hbs2.free 1; have e2 := hbs2.free 2; have e3 := hbs2.free 3; simp at d0 d1 d2 d3; have l0 := hba2.cell 0; have l1 := hba2.cell 1; have l2 := hba2.cell 2; have l3 := hba2.cell 3; have m0 := hba2.free 0; have m1 := hba2.free 1; have m2 := hba2.free 2; have m3 := hba2.free 3; simp at l0 l1 l2 l3; have hvb : w1.heap.size + 1 ≤ gb := (ho1.lt gb rfl).1; have HO2 := hide ho1; have HB2 := hide hb2; have HBS2 := hide hbs2; have HBA2 := hide hba2; clear ho1 hb2 hbs2 hba2 hg1 hv1 c0 c1 c2 c3 g0 g1 g2 g3 k0 k1 k2 k3 f0 f1 f2 f3)
            refine (c_numberAt s pp _ (by omega) hs).mono ?_; rintro e _ ⟨rfl, n1, rfl⟩
            rw [HNM.out]
            go_wp2_with fail
            refine (c_numberAt s pp _ (by omega) hs).mono ?_; rintro e _ ⟨rfl, n2, rfl⟩
            rw [HNM.out]
            go_wp2_with fail
            go_roundw
            have hfS : ∀ b, (Value.slice (some ⟨gb, 0, none⟩) (acc.length + 1) cap).ownBlock = some b → b ≠ w1.heap.size := by rintro b ⟨⟩; show gb ≠ _; omega
            have hS2 := HBS2.out.set_ 3 (.slice (some ⟨gb, 0, none⟩) (acc.length + 1) cap)
            simp at hS2
            have hiv2 : iv + f = (kn - kk) * f := by rw [show kn - kk = (kn - (kk + 1)) + 1 by omega, Nat.succ_mul, ← HIV.out]
            case rel => exact ⟨kk, pp + 2 + nm, iv + f, acc ++ [(pp : Int)], _, by go_num, by go_num, by omega, hiv2, HAL.out, by omega, HQ.out, hS2, HO2.out.far hfS _, HBA2.out.far (by simp; omega) _, below_drewN (HB2.out.setCell hsz _) _⟩
            case measure => simp [intOf]; omega
      · have hlt : ¬ iv < n := fun h => by have := hloop.2 h; omega
        clear hloop
        obtain rfl : kk = 0 := by omega
        by_cases hz : pp = s.size
        · subst hz
          rw [plF_end rfl] at HQ
          go_wp2_with (at_builtin; refine app1_i64 rfl _ _ rfl rfl HO.out rfl hAL hS ?_; intro v1 w2 ho1 hg1 hv1; obtain ⟨gb, cap, rfl, _, _, _⟩ := ho1.form (by simp); simp only [List.length_append, List.length_singleton] at ho1 hg1; have hb2 := below_own HB.out HO.out hg1 hB1 hB2; have hbs2 := HBS.out.grown hg1 hne; have hba2 := HBA.out.grown hg1 hneA; have d0 := hbs2.cell 0; have d1 := hbs2.cell 1; have d2 := hbs2.cell 2; have d3 := hbs2.cell 3; have e0 := hbs2.free 0; have e1 := hbs2.free 1; have e2 := hbs2.free 2; have e3 := hbs2.free 3; simp at d0 d1 d2 d3; have l0 := hba2.cell 0; have l1 := hba2.cell 1; have l2 := hba2.cell 2; have l3 := hba2.cell 3; have m0 := hba2.free 0; have m1 := hba2.free 1; have m2 := hba2.free 2; have m3 := hba2.free 3; simp at l0 l1 l2 l3; have hvb : w1.heap.size + 1 ≤ gb := (ho1.lt gb rfl).1; have HO2 := hide ho1; have HB2 := hide hb2; have HBS2 := hide hbs2; have HBA2 := hide hba2; clear ho1 hb2 hbs2 hba2 hg1 hv1 c0 c1 c2 c3 g0 g1 g2 g3 k0 k1 k2 k3 f0 f1 f2 f3)
          refine bodyPost_ret (v := .tuple #[.agg #[.string s, .int .i64 n, .int .i64 f, .slice (some ⟨gb, 0, none⟩) (acc.length + 1) cap], .int .i64 0]) (by simp [results, Try.results69, go_sem, d0, d1, d2, d3, l0, l1, l2, l3, e0, e1, e2, e3, m0, m1, m2, m3]) rfl ?_
          have hfA : ∀ b, (Value.slice (some ⟨gb, 0, none⟩) (acc.length + 1) cap).ownBlock = some b → b ≠ w.heap.size := by rintro b ⟨⟩; show gb ≠ _; omega
          have hfS : ∀ b, (Value.slice (some ⟨gb, 0, none⟩) (acc.length + 1) cap).ownBlock = some b → b ≠ w1.heap.size := by rintro b ⟨⟩; show gb ≠ _; omega
          exact OsR.mk0 (HPL.out.trans HQ.out.symm) HIN.out ((((((HO2.out.far hfS _).far hfA _).far hfA _).far hfA _).far hfA _).more hB1) (((((HB2.out.setCell hsz _).setCell (Nat.le_refl _) _).setCell (Nat.le_refl _) _).setCell (Nat.le_refl _) _).setCell (Nat.le_refl _) _)
        · go_wp2
          rw [plF_bad hz] at HQ
          refine bodyPost_ret (v := .tuple #[.agg #[.string ⟨#[]⟩, .int .i64 0, .int .i64 0, .slice none 0 0], .int .i64 9]) (by simp [results, Try.results69, go_sem, k0, k1, k2, k3, f0, f1, f2, f3]) rfl ?_
          exact OsR.mkE (HPL.out.trans HQ.out.symm) (by decide) ((((HB.out.setCell (Nat.le_refl _) _).setCell (Nat.le_refl _) _).setCell (Nat.le_refl _) _).setCell (Nat.le_refl _) _)
  · have hp : placesF s = ([], (infoF s).2.2) := by unfold placesF; rw [if_neg hc]
    have hbd := infoF_no hc
    have HP := hide hp; clear hp
    generalize hin : infoF s = inf at *
    have HIN := hide hin; clear hin
    have ht : (inf.2.2 != 0) = true := by simp; exact hc
    have HC := hide hc; clear hc
    go_enter Try.func69, Try.ntmps69
    go_wp2_with fail
    refine (c_iStoreInfo s _ hs).mono ?_; rintro e w1 ⟨rfl, hb1⟩; rw [HIN.out]
    have hbk := (Bk.born _ _ _).below hb1 (Bk.born _ _ _).lt
    have k0 := hbk.cell 0; have k1 := hbk.cell 1; have k2 := hbk.cell 2; have k3 := hbk.cell 3
    have f0 := hbk.free 0; have f1 := hbk.free 1; have f2 := hbk.free 2; have f3 := hbk.free 3
    simp at k0 k1 k2 k3
    have HK := hide hbk; clear hbk
    have HB1 := hide hb1; clear hb1
    have hbw := below_of_alloc HB1.out
    have HBW := hide hbw; clear hbw
    go_wp2
    refine bodyPost_ret (v := .tuple #[.agg #[.string ⟨#[]⟩, .int .i64 0, .int .i64 0, .slice none 0 0], .int .i64 inf.2.2]) (by simp [results, Try.results69, go_sem, k0, k1, k2, k3, f0, f1, f2, f3]) rfl ?_
    exact OsR.mkE HP.out HC.out ((((HBW.out.setCell (Nat.le_refl _) _).setCell (Nat.le_refl _) _).setCell (Nat.le_refl _) _).setCell (Nat.le_refl _) _)
end Go.Proofs.Ytopgjanpbfnlnaa
