/- Contracts: the places of frames, reference side. Contracts: a store that is opened, its frames' places; the other side. FramesOf: the walk of the program's side; the law. FramesOf: the law. -/
import Derived.Test.YtpmflkoepnanoaaGreatFa
import Derived.Test.YtpmflkoepnanoaaGreatBc
import Derived.Test.YtpmflkoepnanoaaGreatLk
namespace Go.Proofs.YtpmflkoepnanoaaGreat
section
open Go.RowKit
/-- The places of k frames from a place on, behind those that are known; and the code. -/
def plF (s : ByteArray) : Nat → Nat → List Int → List Int × Int
  | 0, p, acc => if p = s.size then (acc ++ [(p : Int)], 0) else ([], 9)
  | k + 1, p, acc => if s.size < p + 2 ∨ s.size < p + 2 + numS s p then ([], 11) else plF s k (p + 2 + numS s p) (acc ++ [(p : Int)])
theorem plF_end {s : ByteArray} {p : Nat} {acc : List Int} (h : p = s.size) : plF s 0 p acc = (acc ++ [(p : Int)], 0) := by simp only [plF]; rw [if_pos h]
theorem plF_bad {s : ByteArray} {p : Nat} {acc : List Int} (h : p ≠ s.size) : plF s 0 p acc = ([], 9) := by simp only [plF]; rw [if_neg h]
theorem plF_cut {s : ByteArray} {k p : Nat} {acc : List Int} (h : s.size < p + 2 ∨ s.size < p + 2 + numS s p) : plF s (k + 1) p acc = ([], 11) := by simp only [plF]; rw [if_pos h]
theorem plF_go {s : ByteArray} {k p : Nat} {acc : List Int} (h : ¬ (s.size < p + 2 ∨ s.size < p + 2 + numS s p)) : plF s (k + 1) p acc = plF s k (p + 2 + numS s p) (acc ++ [(p : Int)]) := by simp only [plF]; rw [if_neg h]
/-- The places of a store, its samples, its frame size and the code. -/
def placesF (s : ByteArray) : List Int × Int := if (infoF s).2.2 = 0 then plF s (nch (numS s 6) (numS s 4)) 10 [] else ([], (infoF s).2.2)
theorem infoF_ok {s : ByteArray} (h : (infoF s).2.2 = 0) : infoF s = (((numS s 6 : Nat) : Int), ((numS s 4 : Nat) : Int), 0) ∧ 10 ≤ s.size ∧ numS s 6 ≤ 4000 ∧ 16 ≤ numS s 4 ∧ numS s 4 ≤ 256 := by
  unfold infoF at *
  split at h
  · simp at h
  · rename_i h10
    rw [if_neg h10]
    split at h
    · simp at h
    · rename_i h4
      rw [if_neg h4]
      split at h
      · simp at h
      · rename_i h8
        rw [if_neg h8]
        split at h
        · rename_i hok
          rw [if_pos hok]
          unfold okB at hok
          simp only [Bool.and_eq_true, decide_eq_true_eq] at hok
          have := inB_true.1 hok.1
          exact ⟨rfl, by omega, hok.2, by omega, by omega⟩
        · simp at h
theorem infoF_no {s : ByteArray} (h : (infoF s).2.2 ≠ 0) : (infoF s).1 = 0 ∧ (infoF s).2.1 = 0 ∧ 0 ≤ (infoF s).2.2 ∧ (infoF s).2.2 ≤ 11 := by
  unfold infoF at *
  repeat' split
  all_goals simp_all
set_option maxHeartbeats 400000 in
theorem c_l30Frames (n f : Nat) (w : World) (hn : n ≤ 4000) (hf : 16 ≤ f ∧ f ≤ 256) : Calls Tryz.prog 63 #[.int .i64 (n : Int), .int .i64 (f : Int)] w fun e w' => e = .returned (.int .i64 ((nch n f : Nat) : Int)) ∧ w = w' := by
  have HE := hide (show ((n : Int) + (f : Int) - 1) / (f : Int) = ((nch n f : Nat) : Int) by
    unfold nch
    have : (n : Int) + (f : Int) - 1 = ((n + f - 1 : Nat) : Int) := by omega
    rw [this]; exact (Int.natCast_ediv _ _).symm)
  have hz : ((f : Int) == 0) = false := by simp; omega
  go_enter Tryz.func63, Tryz.ntmps63
  go_wp2
  go_ret
  exact ⟨ret_int HE.out, rfl⟩
def PlR (s : ByteArray) (w : World) (e : Ending) (w' : World) : Prop := ∃ v, e = .returned (.tuple #[v, .int .i64 (if (placesF s).2 = 0 then (infoF s).1 else 0), .int .i64 (if (placesF s).2 = 0 then (infoF s).2.1 else 0), .int .i64 (placesF s).2]) ∧ OwI 2 w' w.heap.size v (placesF s).1 ∧ Below w.heap.size w w'
theorem PlR.mk0 {s : ByteArray} {w w' : World} {v : Value} {xs : List Int} {a b : Int} (hp : placesF s = (xs, 0)) (hi : infoF s = (a, b, 0)) (ho : OwI 2 w' w.heap.size v xs) (hb : Below w.heap.size w w') :
    PlR s w (.returned (.tuple #[v, .int .i64 a, .int .i64 b, .int .i64 0])) w' := ⟨v, by rw [hp, hi]; rfl, by rw [hp]; exact ho, hb⟩
theorem PlR.mkE {s : ByteArray} {w w' : World} {c : Int} (hp : placesF s = ([], c)) (hc : c ≠ 0) (hb : Below w.heap.size w w') :
    PlR s w (.returned (.tuple #[.slice none 0 0, .int .i64 0, .int .i64 0, .int .i64 c])) w' := ⟨.slice none 0 0, by rw [hp]; simp [hc], by rw [hp]; exact ⟨rfl, .inl ⟨rfl, rfl⟩⟩, hb⟩
theorem results_tmp4 {fn : Func} {t u v x : Tmp} (h : fn.results = #[.tmp t, .tmp u, .tmp v, .tmp x]) (tmps : Array Value) (P : Program) (w : World) :
    (results fn tmps).run P w = .ok (.tuple #[tmps.getD t undef, tmps.getD u undef, tmps.getD v undef, tmps.getD x undef]) w := by simp [results, h]
theorem own_one (E : TypeId) (w : World) (B : Nat) (hB : B ≤ w.heap.size) (n : Int) : OwI E (w.alloc (.cells #[.int .i64 n] E)) B (.slice (some ⟨w.heap.size, 0, none⟩) 1 1) [n] :=
  ⟨by simp, .inr ⟨w.heap.size, 1, #[.int .i64 n], rfl, hB, heap_alloc_new w _, Nat.le_refl _, by decide, by simp, by simp⟩⟩
set_option maxHeartbeats 1000000 in
set_option maxRecDepth 100000 in
theorem c_l30Places (s : ByteArray) (w : World) (hs : s.size ≤ 1073741824) : Calls Tryz.prog 44 #[.string s] w (PlR s w) := by
  by_cases hc : (infoF s).2.2 = 0
  · obtain ⟨hinf, h10, hn, hf1, hf2⟩ := infoF_ok hc
    have hpl : placesF s = plF s (nch (numS s 6) (numS s 4)) 10 [] := by unfold placesF; rw [if_pos hc]
    clear hc
    generalize numS s 6 = n at *
    generalize numS s 4 = f at *
    have hk0 : nch n f ≤ 300 := by unfold nch; exact Nat.div_le_of_le_mul (by have := Nat.mul_le_mul_right 300 hf1; omega)
    generalize hkn : nch n f = kn at *
    have HIN := hide hinf; clear hinf
    have HPL := hide hpl; clear hpl
    go_enter Tryz.func44, Tryz.ntmps44
    go_wp2_with fail
    refine (c_sStoreInfo s _ hs).mono ?_; rintro e w1 ⟨rfl, hb1⟩; rw [HIN.out]
    have HB1 := hide hb1; clear hb1
    go_wp2_with fail
    refine (c_l30Frames n f _ hn ⟨hf1, hf2⟩).mono ?_; rintro e w' ⟨rfl, rfl⟩; rw [hkn]
    go_wp2_with fail
    go_loopw [10, 11, 12] (fun p t k wr => ∃ (kk pp : Nat) (acc : List Int), p = .int .i64 (pp : Int) ∧ k = .int .i64 (kk : Int) ∧ kk ≤ kn ∧ acc.length + kk = kn ∧ pp ≤ s.size ∧ plF s kk pp acc = plF s kn 10 [] ∧ OwI 2 wr w.heap.size t (acc ++ [(pp : Int)]) ∧ Below w.heap.size w wr) (fun _ _ k _ => (intOf k).toNat)
    case atStart =>
      exact ⟨kn, 10, [], rfl, rfl, Nat.le_refl _, by simp, h10, rfl, own_one _ _ _ HB1.out.size _, HB1.out.alloc HB1.out.size _⟩
    case round =>
      obtain ⟨kk, pp, acc, rfl, rfl, hkk, hal, hpp, hpl, ho, hb⟩ := hrel
      have HO := hide ho; have HB := hide hb; have HQ := hide hpl; clear ho hb hpl
      by_cases hk : 0 < kk
      · obtain ⟨kk, rfl⟩ : ∃ j, kk = j + 1 := ⟨kk - 1, by omega⟩
        by_cases hz1 : s.size < pp + 2
        · go_wp2
          refine bodyPost_ret (results_tmp4 rfl _ _ _) rfl ?_
          rw [plF_cut (.inl hz1)] at HQ
          exact PlR.mkE (HPL.out.trans HQ.out.symm) (by decide) HB.out
        · have hb16 := numS_lt s pp
          by_cases hz2 : s.size < pp + 2 + numS s pp
          · have HC := hide (plF_cut (k := kk) (acc := acc) (.inr hz2))
            generalize hnm : numS s pp = nm at *
            have HNM := hide hnm; clear hnm
            go_wp2_with fail
            refine (c_l29At s pp _ (by omega) hs).mono ?_; rintro e _ ⟨rfl, n1, rfl⟩
            rw [HNM.out]
            go_wp2
            refine bodyPost_ret (results_tmp4 rfl _ _ _) rfl ?_
            rw [HC.out] at HQ
            exact PlR.mkE (HPL.out.trans HQ.out.symm) (by decide) (below_drewN HB.out _)
          · have HC := hide (plF_go (k := kk) (acc := acc) (show ¬ (s.size < pp + 2 ∨ s.size < pp + 2 + numS s pp) by omega))
            generalize hnm : numS s pp = nm at *
            have HNM := hide hnm; clear hnm
            have hal2 : (acc ++ [(pp : Int)]).length ≤ 400 := by simp; omega
            have HAL := hide hal2; clear hal2
            have HS1 := hide (show ((pp : Int) + (2 + (nm : Int))) = ((pp + 2 + nm : Nat) : Int) by omega)
            go_wp2_with fail
            refine (c_l29At s pp _ (by omega) hs).mono ?_; rintro e _ ⟨rfl, n1, rfl⟩
            rw [HNM.out]
            go_wp2_with fail
            refine (c_l29At s pp _ (by omega) hs).mono ?_; rintro e _ ⟨rfl, n2, rfl⟩
            rw [HNM.out]
            rw [HC.out] at HQ
            have hsz : w.heap.size ≤ (wr.drewN (n1 + n2)).heap.size := HB.out.size
            have HO' : Sec (OwI 2 (wr.drewN (n1 + n2)) w.heap.size u11 (acc ++ [(pp : Int)])) := HO
            have HB' : Sec (Below w.heap.size w (wr.drewN (n1 + n2))) := ⟨below_drewN HB.out _⟩
            go_wp2_with (at_builtin; refine app1_i64 rfl _ _ rfl rfl HO'.out rfl (by have := HAL.out; omega) hsz ?_; intro v1 w2 ho1 hg1 hv1; have hb1 := below_own HB'.out HO'.out hg1 (Nat.le_refl _) hsz; have HO1 := hide ho1; have HB2 := hide hb1; clear ho1 hb1 hg1 hv1)
            go_roundw
            case rel => exact ⟨kk, pp + 2 + nm, acc ++ [(pp : Int)], by go_num, by go_num, by omega, by simp; omega, by omega, HQ.out, by have := HO1.out; rw [HS1.out] at this; exact this, HB2.out⟩
            case measure => simp [intOf]
      · obtain rfl : kk = 0 := by omega
        by_cases hz : pp = s.size
        · go_wp2
          refine bodyPost_ret (results_tmp4 rfl _ _ _) rfl ?_
          rw [plF_end hz] at HQ
          exact PlR.mk0 (HPL.out.trans HQ.out.symm) HIN.out HO.out HB.out
        · go_wp2
          refine bodyPost_ret (results_tmp4 rfl _ _ _) rfl ?_
          rw [plF_bad hz] at HQ
          exact PlR.mkE (HPL.out.trans HQ.out.symm) (by decide) HB.out
  · have hp : placesF s = ([], (infoF s).2.2) := by unfold placesF; rw [if_neg hc]
    have hbd := infoF_no hc
    have HP := hide hp; clear hp
    generalize hin : infoF s = inf at *
    have HIN := hide hin; clear hin
    have ht : (inf.2.2 != 0) = true := by simp; exact hc
    have HC := hide hc; clear hc
    go_enter Tryz.func44, Tryz.ntmps44
    go_wp2_with fail
    refine (c_sStoreInfo s _ hs).mono ?_; rintro e w1 ⟨rfl, hb1⟩; rw [HIN.out]
    have HB1 := hide hb1; clear hb1
    go_wp2
    refine bodyPost_ret (results_tmp4 rfl _ _ _) rfl ?_
    exact PlR.mkE HP.out HC.out HB1.out
/-- The contract of FramesOf. -/
def FrO (s : ByteArray) (w : World) (e : Ending) (w' : World) : Prop := ∃ v, e = .returned (.tuple #[v, .int .i64 (placesF s).2]) ∧ OwI 2 w' w.heap.size v (placesF s).1 ∧ Below w.heap.size w w'
end
section
open Go.RowKit
theorem nch_lt {n f j : Nat} (hf : 16 ≤ f) : j < nch n f ↔ j * f < n := by
  unfold nch
  rw [← Nat.succ_le_iff, Nat.le_div_iff_mul_le (by omega), Nat.succ_mul]
  omega
/-- The contract of openStore: text, samples, frame size, places; the code. -/
def OsR (s : ByteArray) (w : World) (e : Ending) (w' : World) : Prop := ∃ (v : Value) (t : ByteArray) (n f c : Int), e = .returned (.tuple #[.agg #[.string t, .int .i64 n, .int .i64 f, v], .int .i64 c]) ∧ c = (placesF s).2 ∧ (c = 0 → t = s ∧ n = (infoF s).1 ∧ f = (infoF s).2.1) ∧ OwI 2 w' w.heap.size v (placesF s).1 ∧ Below w.heap.size w w'
theorem OsR.mkE {s : ByteArray} {w w' : World} {t : ByteArray} {n f c : Int} (hp : placesF s = ([], c)) (hc : c ≠ 0) (hb : Below w.heap.size w w') :
    OsR s w (.returned (.tuple #[.agg #[.string t, .int .i64 n, .int .i64 f, .slice none 0 0], .int .i64 c])) w' := ⟨_, _, _, _, _, rfl, by rw [hp], fun h => absurd h hc, by rw [hp]; exact OwI.nil_ _ _ _, hb⟩
theorem OsR.mk0 {s : ByteArray} {w w' : World} {v : Value} {n f : Int} {xs : List Int} (hp : placesF s = (xs, 0)) (hi : infoF s = (n, f, 0)) (ho : OwI 2 w' w.heap.size v xs) (hb : Below w.heap.size w w') :
    OsR s w (.returned (.tuple #[.agg #[.string s, .int .i64 n, .int .i64 f, v], .int .i64 0])) w' := ⟨_, _, _, _, _, rfl, by rw [hp], fun _ => ⟨rfl, by rw [hi], by rw [hi]⟩, by rw [hp]; exact ho, hb⟩
set_option maxHeartbeats 1000000 in
set_option maxRecDepth 100000 in
theorem c_openStore (s : ByteArray) (w : World) (hs : s.size ≤ 1073741824) : Calls Tryz.prog 29 #[.string s] w (OsR s w) := by
  by_cases hc : (infoF s).2.2 = 0
  · obtain ⟨hinf, h10, hn, hf1, hf2⟩ := infoF_ok hc
    have hpl : placesF s = plF s (nch (numS s 6) (numS s 4)) 10 [] := by unfold placesF; rw [if_pos hc]
    clear hc
    generalize numS s 6 = n at *
    generalize numS s 4 = f at *
    have hk0 : nch n f ≤ 300 := by unfold nch; exact Nat.div_le_of_le_mul (by have := Nat.mul_le_mul_right 300 hf1; omega)
    have hkl : ∀ j, j < nch n f ↔ j * f < n := fun j => nch_lt hf1
    generalize nch n f = kn at *
    have HKL := hide hkl; clear hkl
    have HIN := hide hinf; clear hinf
    have HPL := hide hpl; clear hpl
    go_enter Tryz.func29, Tryz.ntmps29
    go_wp2_with fail
    refine (c_iStoreInfo s _ hs).mono ?_; rintro e w1 ⟨rfl, hb1⟩; rw [HIN.out]
    have hbk := (Bk.born _ _ _).below hb1 (Bk.born _ _ _).lt
    have HK := hide hbk; clear hbk
    have hbw := below_of_alloc hb1
    have hsz := hbw.size
    have hA := HK.out.lt
    have HBW := hide hbw; clear hbw hb1
    go_wp2_with fail
    go_loopw [8, 10] (fun p i wr => ∃ (kk pp iv : Nat) (acc : List Int) (t : Value), p = .int .i64 (pp : Int) ∧ i = .int .i64 (iv : Int) ∧ kk ≤ kn ∧ iv = (kn - kk) * f ∧ acc.length + kk = kn ∧ pp ≤ s.size ∧ plF s kk pp acc = plF s kn 10 [] ∧ Bk wr w1.heap.size 50 #[.string s, .int .i64 n, .int .i64 f, t] ∧ OwI 2 wr (w1.heap.size + 1) t acc ∧ Bk wr w.heap.size 50 #[.string ⟨#[]⟩, .int .i64 0, .int .i64 0, .slice none 0 0] ∧ Below w.heap.size w wr) (fun _ i _ => 8000 - (intOf i).toNat)
    case atStart => exact ⟨kn, 10, 0, [], _, rfl, rfl, Nat.le_refl _, by simp, by simp, h10, rfl, Bk.born _ _ _, OwI.nil_ _ _ _, HK.out.alloc _, HBW.out.alloc hsz _⟩
    case round =>
      obtain ⟨kk, pp, iv, acc, t, rfl, rfl, hkk, hiv, hal, hpp, hpl, hbs, ho, hba, hb⟩ := hrel
      have hS := hbs.lt
      have c0 := hbs.cell 0; have c1 := hbs.cell 1; have c2 := hbs.cell 2; have c3 := hbs.cell 3
      have g0 := hbs.free 0; have g1 := hbs.free 1; have g2 := hbs.free 2; have g3 := hbs.free 3
      simp at c0 c1 c2 c3
      have k0 := hba.cell 0; have k1 := hba.cell 1; have k2 := hba.cell 2; have k3 := hba.cell 3
      have f0 := hba.free 0; have f1 := hba.free 1; have f2 := hba.free 2; have f3 := hba.free 3
      simp at k0 k1 k2 k3
      have hloop := HKL.out (kn - kk)
      rw [← hiv] at hloop
      have hne : some w1.heap.size ≠ t.ownBlock := fun e => by have := (ho.lt _ e.symm).1; omega
      have hneA : some w.heap.size ≠ t.ownBlock := fun e => by have := (ho.lt _ e.symm).1; omega
      have HO := hide ho; have HB := hide hb; have HQ := hide hpl; have HBS := hide hbs; have HBA := hide hba; have HIV := hide hiv; clear ho hb hpl hbs hba hiv
      have hAL : acc.length + 1 ≤ 17592186044416 := by omega
      have hB1 : w.heap.size ≤ w1.heap.size + 1 := by omega
      have hB2 : w.heap.size ≤ wr.heap.size := by omega
      by_cases hk : 0 < kk
      · have hlt : iv < n := hloop.1 (by omega)
        clear hloop
        obtain ⟨kk, rfl⟩ : ∃ j, kk = j + 1 := ⟨kk - 1, by omega⟩
        by_cases hz1 : s.size < pp + 2
        · rw [plF_cut (.inl hz1)] at HQ
          go_wp2_with (at_builtin; refine app1_i64 rfl _ _ rfl rfl HO.out rfl hAL hS ?_; intro v1 w2 ho1 hg1 hv1; obtain ⟨gb, cap, rfl, _, _, _⟩ := ho1.form (by simp); simp only [List.length_append, List.length_singleton] at ho1 hg1; have hb2 := below_own HB.out HO.out hg1 hB1 hB2; have hbs2 := HBS.out.grown hg1 hne; have hba2 := HBA.out.grown hg1 hneA; have d0 := hbs2.cell 0; have d1 := hbs2.cell 1; have d2 := hbs2.cell 2; have d3 := hbs2.cell 3; have e0 := hbs2.free 0; have e1 := hbs2.free 1; have e2 := hbs2.free 2; have e3 := hbs2.free 3; simp at d0 d1 d2 d3; have l0 := hba2.cell 0; have l1 := hba2.cell 1; have l2 := hba2.cell 2; have l3 := hba2.cell 3; have m0 := hba2.free 0; have m1 := hba2.free 1; have m2 := hba2.free 2; have m3 := hba2.free 3; simp at l0 l1 l2 l3; have hvb : w1.heap.size + 1 ≤ gb := (ho1.lt gb rfl).1; have HO2 := hide ho1; have HB2 := hide hb2; have HBS2 := hide hbs2; have HBA2 := hide hba2; clear ho1 hb2 hbs2 hba2 hg1 hv1 c0 c1 c2 c3 g0 g1 g2 g3 k0 k1 k2 k3 f0 f1 f2 f3)
          refine bodyPost_ret (v := .tuple #[.agg #[.string ⟨#[]⟩, .int .i64 0, .int .i64 0, .slice none 0 0], .int .i64 11]) (by simp [results, Tryz.results29, go_sem, l0, l1, l2, l3, m0, m1, m2, m3]) rfl ?_
          exact OsR.mkE (HPL.out.trans HQ.out.symm) (by decide) (((((HB2.out.setCell hsz _).setCell (Nat.le_refl _) _).setCell (Nat.le_refl _) _).setCell (Nat.le_refl _) _).setCell (Nat.le_refl _) _)
        · have hb16 := numS_lt s pp
          by_cases hz2 : s.size < pp + 2 + numS s pp
          · rw [plF_cut (.inr hz2)] at HQ
            generalize hnm : numS s pp = nm at *
            have HNM := hide hnm; clear hnm
            go_wp2_with (at_builtin; refine app1_i64 rfl _ _ rfl rfl HO.out rfl hAL hS ?_; intro v1 w2 ho1 hg1 hv1; obtain ⟨gb, cap, rfl, _, _, _⟩ := ho1.form (by simp); simp only [List.length_append, List.length_singleton] at ho1 hg1; have hb2 := below_own HB.out HO.out hg1 hB1 hB2; have hbs2 := HBS.out.grown hg1 hne; have hba2 := HBA.out.grown hg1 hneA; have d0 := hbs2.cell 0; have d1 := hbs2.cell 1; have d2 := hbs2.cell 2; have d3 := hbs2.cell 3; have e0 := hbs2.free 0; have e1 := hbs2.free 1; have e2 := hbs2.free 2; have e3 := hbs2.free 3; simp at d0 d1 d2 d3; have l0 := hba2.cell 0; have l1 := hba2.cell 1; have l2 := hba2.cell 2; have l3 := hba2.cell 3; have m0 := hba2.free 0; have m1 := hba2.free 1; have m2 := hba2.free 2; have m3 := hba2.free 3; simp at l0 l1 l2 l3; have hvb : w1.heap.size + 1 ≤ gb := (ho1.lt gb rfl).1; have HO2 := hide ho1; have HB2 := hide hb2; have HBS2 := hide hbs2; have HBA2 := hide hba2; clear ho1 hb2 hbs2 hba2 hg1 hv1 c0 c1 c2 c3 g0 g1 g2 g3 k0 k1 k2 k3 f0 f1 f2 f3)
            refine (c_numberAt s pp _ (by omega) hs).mono ?_; rintro e _ ⟨rfl, n1, rfl⟩
            rw [HNM.out]
            go_wp2
            refine bodyPost_ret (v := .tuple #[.agg #[.string ⟨#[]⟩, .int .i64 0, .int .i64 0, .slice none 0 0], .int .i64 11]) (by simp [results, Tryz.results29, go_sem, l0, l1, l2, l3, m0, m1, m2, m3]) rfl ?_
            exact OsR.mkE (HPL.out.trans HQ.out.symm) (by decide) (((((below_drewN (HB2.out.setCell hsz _) _).setCell (Nat.le_refl _) _).setCell (Nat.le_refl _) _).setCell (Nat.le_refl _) _).setCell (Nat.le_refl _) _)
          · rw [plF_go (show ¬ (s.size < pp + 2 ∨ s.size < pp + 2 + numS s pp) by omega)] at HQ
            generalize hnm : numS s pp = nm at *
            have HNM := hide hnm; clear hnm
            have hal2 : (acc ++ [(pp : Int)]).length + kk = kn := by simp; omega
            have HAL := hide hal2; clear hal2
            have HS1 := hide (show ((pp : Int) + (2 + (nm : Int))) = ((pp + 2 + nm : Nat) : Int) by omega)
            go_wp2_with (at_builtin; refine app1_i64 rfl _ _ rfl rfl HO.out rfl hAL hS ?_; intro v1 w2 ho1 hg1 hv1; obtain ⟨gb, cap, rfl, _, _, _⟩ := ho1.form (by simp); simp only [List.length_append, List.length_singleton] at ho1 hg1; have hb2 := below_own HB.out HO.out hg1 hB1 hB2; have hbs2 := HBS.out.grown hg1 hne; have hba2 := HBA.out.grown hg1 hneA; have d0 := hbs2.cell 0; have d1 := hbs2.cell 1; have d2 := hbs2.cell 2; have d3 := hbs2.cell 3; have e0 := hbs2.free 0; have e1 := hbs2.free 1; have e2 := hbs2.free 2; have e3 := hbs2.free 3; simp at d0 d1 d2 d3; have l0 := hba2.cell 0; have l1 := hba2.cell 1; have l2 := hba2.cell 2; have l3 := hba2.cell 3; have m0 := hba2.free 0; have m1 := hba2.free 1; have m2 := hba2.free 2; have m3 := hba2.free 3; simp at l0 l1 l2 l3; have hvb : w1.heap.size + 1 ≤ gb := (ho1.lt gb rfl).1; have HO2 := hide ho1; have HB2 := hide hb2; have HBS2 := hide hbs2; have HBA2 := hide hba2; clear ho1 hb2 hbs2 hba2 hg1 hv1 c0 c1 c2 c3 g0 g1 g2 g3 k0 k1 k2 k3 f0 f1 f2 f3)
            refine (c_numberAt s pp _ (by omega) hs).mono ?_; rintro e _ ⟨rfl, n1, rfl⟩
            rw [HNM.out]
            go_wp2_with fail
            refine (c_numberAt s pp _ (by omega) hs).mono ?_; rintro e _ ⟨rfl, n2, rfl⟩
            rw [HNM.out]
            go_wp2_with fail
            go_roundw
            have hfS : ∀ b, (Value.slice (some ⟨gb, 0, none⟩) (acc.length + 1) cap).ownBlock = some b → b ≠ w1.heap.size := by rintro b ⟨⟩; show gb ≠ _; omega
            have hS2 := HBS2.out.set_ 3 (.slice (some ⟨gb, 0, none⟩) (acc.length + 1) cap)
            simp at hS2
            have hiv2 : iv + f = (kn - kk) * f := by rw [show kn - kk = (kn - (kk + 1)) + 1 by omega, Nat.succ_mul, ← HIV.out]
            case rel => exact ⟨kk, pp + 2 + nm, iv + f, acc ++ [(pp : Int)], _, by go_num, by go_num, by omega, hiv2, HAL.out, by omega, HQ.out, hS2, HO2.out.far hfS _, HBA2.out.far (by simp; omega) _, below_drewN (HB2.out.setCell hsz _) _⟩
            case measure => simp [intOf]; omega
      · have hlt : ¬ iv < n := fun h => by have := hloop.2 h; omega
        clear hloop
        obtain rfl : kk = 0 := by omega
        by_cases hz : pp = s.size
        · subst hz
          rw [plF_end rfl] at HQ
          go_wp2_with (at_builtin; refine app1_i64 rfl _ _ rfl rfl HO.out rfl hAL hS ?_; intro v1 w2 ho1 hg1 hv1; obtain ⟨gb, cap, rfl, _, _, _⟩ := ho1.form (by simp); simp only [List.length_append, List.length_singleton] at ho1 hg1; have hb2 := below_own HB.out HO.out hg1 hB1 hB2; have hbs2 := HBS.out.grown hg1 hne; have hba2 := HBA.out.grown hg1 hneA; have d0 := hbs2.cell 0; have d1 := hbs2.cell 1; have d2 := hbs2.cell 2; have d3 := hbs2.cell 3; have e0 := hbs2.free 0; have e1 := hbs2.free 1; have e2 := hbs2.free 2; have e3 := hbs2.free 3; simp at d0 d1 d2 d3; have l0 := hba2.cell 0; have l1 := hba2.cell 1; have l2 := hba2.cell 2; have l3 := hba2.cell 3; have m0 := hba2.free 0; have m1 := hba2.free 1; have m2 := hba2.free 2; have m3 := hba2.free 3; simp at l0 l1 l2 l3; have hvb : w1.heap.size + 1 ≤ gb := (ho1.lt gb rfl).1; have HO2 := hide ho1; have HB2 := hide hb2; have HBS2 := hide hbs2; have HBA2 := hide hba2; clear ho1 hb2 hbs2 hba2 hg1 hv1 c0 c1 c2 c3 g0 g1 g2 g3 k0 k1 k2 k3 f0 f1 f2 f3)
          refine bodyPost_ret (v := .tuple #[.agg #[.string s, .int .i64 n, .int .i64 f, .slice (some ⟨gb, 0, none⟩) (acc.length + 1) cap], .int .i64 0]) (by simp [results, Tryz.results29, go_sem, d0, d1, d2, d3, l0, l1, l2, l3, e0, e1, e2, e3, m0, m1, m2, m3]) rfl ?_
          have hfA : ∀ b, (Value.slice (some ⟨gb, 0, none⟩) (acc.length + 1) cap).ownBlock = some b → b ≠ w.heap.size := by rintro b ⟨⟩; show gb ≠ _; omega
          have hfS : ∀ b, (Value.slice (some ⟨gb, 0, none⟩) (acc.length + 1) cap).ownBlock = some b → b ≠ w1.heap.size := by rintro b ⟨⟩; show gb ≠ _; omega
          exact OsR.mk0 (HPL.out.trans HQ.out.symm) HIN.out ((((((HO2.out.far hfS _).far hfA _).far hfA _).far hfA _).far hfA _).more hB1) (((((HB2.out.setCell hsz _).setCell (Nat.le_refl _) _).setCell (Nat.le_refl _) _).setCell (Nat.le_refl _) _).setCell (Nat.le_refl _) _)
        · go_wp2
          rw [plF_bad hz] at HQ
          refine bodyPost_ret (v := .tuple #[.agg #[.string ⟨#[]⟩, .int .i64 0, .int .i64 0, .slice none 0 0], .int .i64 9]) (by simp [results, Tryz.results29, go_sem, k0, k1, k2, k3, f0, f1, f2, f3]) rfl ?_
          exact OsR.mkE (HPL.out.trans HQ.out.symm) (by decide) ((((HB.out.setCell (Nat.le_refl _) _).setCell (Nat.le_refl _) _).setCell (Nat.le_refl _) _).setCell (Nat.le_refl _) _)
  · have hp : placesF s = ([], (infoF s).2.2) := by unfold placesF; rw [if_neg hc]
    have hbd := infoF_no hc
    have HP := hide hp; clear hp
    generalize hin : infoF s = inf at *
    have HIN := hide hin; clear hin
    have ht : (inf.2.2 != 0) = true := by simp; exact hc
    have HC := hide hc; clear hc
    go_enter Tryz.func29, Tryz.ntmps29
    go_wp2_with fail
    refine (c_iStoreInfo s _ hs).mono ?_; rintro e w1 ⟨rfl, hb1⟩; rw [HIN.out]
    have hbk := (Bk.born _ _ _).below hb1 (Bk.born _ _ _).lt
    have k0 := hbk.cell 0; have k1 := hbk.cell 1; have k2 := hbk.cell 2; have k3 := hbk.cell 3
    have f0 := hbk.free 0; have f1 := hbk.free 1; have f2 := hbk.free 2; have f3 := hbk.free 3
    simp at k0 k1 k2 k3
    have HK := hide hbk; clear hbk
    have HB1 := hide hb1; clear hb1
    have hbw := below_of_alloc HB1.out
    have HBW := hide hbw; clear hbw
    go_wp2
    refine bodyPost_ret (v := .tuple #[.agg #[.string ⟨#[]⟩, .int .i64 0, .int .i64 0, .slice none 0 0], .int .i64 inf.2.2]) (by simp [results, Tryz.results29, go_sem, k0, k1, k2, k3, f0, f1, f2, f3]) rfl ?_
    exact OsR.mkE HP.out HC.out ((((HBW.out.setCell (Nat.le_refl _) _).setCell (Nat.le_refl _) _).setCell (Nat.le_refl _) _).setCell (Nat.le_refl _) _)
end
section
open Go.RowKit
theorem plF_no {s : ByteArray} : ∀ (k p : Nat) (acc : List Int), (plF s k p acc).2 ≠ 0 → (plF s k p acc).1 = []
  | 0, p, acc => by unfold plF; split <;> simp
  | k + 1, p, acc => by
    unfold plF
    split
    · simp
    · exact plF_no k _ _
theorem placesF_no {s : ByteArray} {ps : List Int} {c : Int} (h : placesF s = (ps, c)) (hc : c ≠ 0) : ps = [] := by
  have h1 : (placesF s).1 = ps := by rw [h]
  have h2 : (placesF s).2 = c := by rw [h]
  rw [← h1]
  rw [← h2] at hc
  unfold placesF at *
  split
  · rename_i h0
    rw [if_pos h0] at hc
    exact plF_no _ _ _ hc
  · rfl
set_option maxHeartbeats 1000000 in
set_option maxRecDepth 100000 in
theorem c_iFramesOf (s : ByteArray) (w : World) (hs : s.size ≤ 1073741824) : Calls Tryz.prog 17 #[.string s] w (FrO s w) := by
  go_enter Tryz.func17, Tryz.ntmps17
  go_wp2_with fail
  refine (c_openStore s _ hs).mono ?_; rintro e w1 ⟨v, t, n, f, c, rfl, hc, hok, ho, hb⟩
  have hsz := hb.size
  obtain ⟨A, cap, rfl, _, _, _⟩ := ho.rd.open_
  have hcl : placesF s = ((placesF s).1, c) := by rw [hc]
  clear hc
  generalize (placesF s).1 = ps at *
  have HO := hide ho; have HB := hide hb; have HC := hide hcl; clear ho hb hcl hok
  by_cases hz : c = 0
  · subst hz
    go_wp2
    go_ret2
    exact ⟨_, by rw [HC.out]; rfl, by rw [HC.out]; exact HO.out.below (((Below.refl _ _).alloc (Nat.le_refl _) _)) (fun b h => (HO.out.lt b h).2), HB.out.alloc hsz _⟩
  · have hp := placesF_no HC.out hz
    have hzb : (c != 0) = true := by simp; exact hz
    have HP := hide hp; clear hp
    go_wp2
    go_ret2
    exact ⟨.slice none 0 0, by rw [HC.out]; rfl, by rw [HC.out]; simp only; rw [HP.out]; exact OwI.nil_ _ _ _, HB.out.alloc hsz _⟩
end
open Go.RowKit
theorem plF_len {s : ByteArray} : ∀ (k p : Nat) (acc : List Int), (plF s k p acc).1.length ≤ acc.length + k + 1
  | 0, p, acc => by unfold plF; split <;> simp
  | k + 1, p, acc => by
    unfold plF
    split
    · simp
    · have := plF_len (s := s) k (p + 2 + numS s p) (acc ++ [(p : Int)])
      simp at this
      omega
theorem placesF_len {s : ByteArray} : (placesF s).1.length ≤ 70000 := by
  unfold placesF
  split
  · have h := plF_len (s := s) (nch (numS s 6) (numS s 4)) 10 []
    rename_i h0
    obtain ⟨_, _, h1, h2, h3⟩ := infoF_ok h0
    have hk0 : nch (numS s 6) (numS s 4) ≤ 5000 := by unfold nch; exact Nat.le_trans (Nat.div_le_self _ _) (by omega)
    simp at h
    omega
  · simp
theorem c_iFr (s : ByteArray) (p : List Int × Int) (w : World) (hs : s.size ≤ 1048576) (hp : placesF s = p) : Calls Tryz.prog 17 #[.string s] w fun e w' => ∃ v, e = .returned (.tuple #[v, .int .i64 p.2]) ∧ OwI 2 w' w.heap.size v p.1 ∧ Below w.heap.size w w' := by
  subst hp; exact c_iFramesOf s w (by omega)
end Go.Proofs.YtpmflkoepnanoaaGreat
