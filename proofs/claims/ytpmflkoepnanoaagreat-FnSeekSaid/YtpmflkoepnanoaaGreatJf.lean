/- Contracts: a part of a store that is loaded. Contracts: a store's signal and a part of it that are loaded; both sides. LoadSignal: the law. LoadRange: the law. -/
import Derived.Test.YtpmflkoepnanoaaGreatJe
import Derived.Test.YtpmflkoepnanoaaGreatAc
namespace Go.Proofs.YtpmflkoepnanoaaGreat
section
open Go.RowKit
set_option maxHeartbeats 2000000 in
set_option maxRecDepth 100000 in
theorem c_loadRange {s : ByteArray} {t : List Nat} (h : Opn s t) (fr n : Nat) (hfr : fr + n ≤ numS s 6) (A : Option Addr) (cap : Nat) (w : World) (hr : RdI w (.slice A (cntF s + 1) cap) (t.map fun (x : Nat) => (x : Int))) :
    Calls Tryz.prog 30 #[stV s (numS s 6) (numS s 4) (.slice A (cntF s + 1) cap), .int .i64 (fr : Int), .int .i64 (n : Int)] w (SlR (rangeF s fr n) w) := by
  have HR := hide hr; clear hr
  have hf1 := h.f1; have hf2 := h.f2; have hn4 := h.n4
  have hcnt := h.cnt
  have HLO := hide (fun (j : Nat) (hj : j < cntF s) w h' => iLoad h hj (.slice A (cntF s + 1) cap) w h')
  have HIF := hide (fun k hk => endK_iff (f := numS s 4) (fr := fr) (n := n) (k := k) hf1 hk)
  have HEC := hide (fun (k : Nat) (hk : k * numS s 4 < numS s 6) => show k < cntF s from (nch_lt hf1).2 hk)
  have hge := endK_ge (numS s 4) fr n
  have hle := endK_le (numS s 4) fr n
  have HRN := hide (show rngF s fr n (endK (numS s 4) fr n - fr / numS s 4) (fr / numS s 4) [] = rangeF s fr n from rfl)
  have HNO := hide (fun c k acc xs e => rngF_no (s := s) (fr := fr) (n := n) (c := c) (k := k) (acc := acc) (xs := xs) (e := e))
  have HGO := hide (fun c k acc => rngF_go (s := s) (fr := fr) (n := n) (c := c) (k := k) (acc := acc))
  have HPK := hide (fun k => show partK s fr n k = midL (frK s k).1 (fr - k * numS s 4) (min (frK s k).1.length (fr + n - k * numS s 4)) (frK s k).1.length from rfl)
  have HLK := hide (fun k (hk : (frK s k).2 = 0) => show (frK s k).1.length = min (numS s 4) (numS s 6 - k * numS s 4) from frK_len hk)
  have HBD := hide (frK_bd s)
  have hk0 : fr / numS s 4 ≤ fr := Nat.div_le_self _ _
  have hk1 : fr < (fr / numS s 4 + 1) * numS s 4 := by rw [Nat.add_mul, Nat.one_mul, Nat.mul_comm]; have := Nat.mod_lt fr (show 0 < numS s 4 by omega); have := Nat.div_add_mod fr (numS s 4); omega
  have HOO := hide h; clear h
  generalize rangeF s fr n = R at *
  generalize hE : endK (numS s 4) fr n = E at *
  have HEE := hide hE; clear hE
  generalize numS s 6 = N at *
  generalize numS s 4 = f at *
  have HLE := hide hle; clear hle
  have e0 : (fr : Int) / (f : Int) = ((fr / f : Nat) : Int) := by simp
  generalize hk0' : fr / f = k0 at *
  have HK0 := hide hk0'; have HK1 := hide hk1; clear hk0' hk1
  generalize cntF s = C at *
  unfold stV
  go_enter Tryz.func30, Tryz.ntmps30
  go_wp2
  go_loopw [8, 9] (fun o kk wr => ∃ (k : Nat) (acc : List Int), k0 ≤ k ∧ k ≤ E ∧ kk = .int .i64 k ∧ acc.length ≤ 70000 * k ∧ rngF s fr n (E - k) k acc = R ∧ Bk wr w.heap.size 50 #[.string s, .int .i64 (N : Int), .int .i64 (f : Int), .slice A (C + 1) cap] ∧ OwI 2 wr (w.heap.size + 1) o acc ∧ Below w.heap.size w wr) (fun _ kk _ => E - (intOf kk).toNat)
  case atStart => exact ⟨k0, [], Nat.le_refl _, hge, rfl, by simp, HRN.out, (Bk.born _ _ _).alloc _, by have := new_i64 (w.alloc (.cells #[.string s, .int .i64 (N : Int), .int .i64 (f : Int), .slice A (C + 1) cap] 50)); simpa using this, ((Below.refl _ _).alloc (Nat.le_refl _) _).alloc (by simp) _⟩
  case round =>
    obtain ⟨k, acc, hkk, hkE, rfl, hal, hrun, hbk, ho, hb⟩ := hrel
    have hsz := hb.size
    have hwl := hbk.lt
    have c0 := hbk.cell 0; have c1 := hbk.cell 1; have c2 := hbk.cell 2; have c3 := hbk.cell 3
    simp at c0 c1 c2 c3
    have HRUN := hide hrun; have HO := hide ho; have HB := hide hb; have HBK := hide hbk; clear hrun ho hb hbk
    have hif := HIF.out k hkk
    obtain ⟨q, hq⟩ : ∃ q, k * f = q := ⟨_, rfl⟩
    have e1 : (k : Int) * (f : Int) = (q : Int) := by rw [← hq]; simp
    have HK1k := hide (show fr < q + f by
      have h1 := HK1.out
      have h2 : (k0 + 1) * f ≤ (k + 1) * f := Nat.mul_le_mul_right _ (by omega)
      rw [Nat.add_mul k, hq, Nat.one_mul] at h2
      omega)
    rw [hq] at hif
    have HQ := hide hq; clear hq
    by_cases hk : k < E
    · obtain ⟨hn0, hqn⟩ := hif.2 hk
      have hkC := HEC.out k (by rw [HQ.out]; omega)
      clear hif
      have t1 : (0 : Int) < (n : Int) := by omega
      have t2 : (q : Int) < (fr : Int) + (n : Int) := by omega
      go_wp2_with fail
      refine (HLO.out k hkC _ (HR.out.below HB.out)).mono ?_; rintro e w1 ⟨v1, rfl, ho1, hb1⟩
      have hbd := HBD.out k
      have HPKk := hide (HPK.out k); have HLKk := hide (HLK.out k)
      have HNOk := hide (fun acc xs e => HNO.out (E - (k + 1)) k acc xs e)
      have HGOk := hide (fun acc => HGO.out (E - (k + 1)) k acc)
      rw [show E - (k + 1) + 1 = E - k by omega] at HNOk HGOk
      generalize frK s k = K at *
      obtain ⟨xs, c⟩ := K
      simp only at ho1 hbd HPKk
      obtain ⟨A1, cap1, rfl, hl1, hc1, hx1⟩ := ho1.rd.open_
      have HO1 : Sec (OwI 2 w1 wr.heap.size (.slice A1 xs.length cap1) xs) := hide ho1; have HB1 := hide hb1; have hsz1 := hb1.size
      have HOA : Sec (OwI 2 w1 (w.heap.size + 1) _ acc) := hide (own_all HO.out hb1)
      have HB2 := hide (bthen HB.out hsz hb1)
      have HBK1 := hide (HBK.out.below hb1 hwl)
      have hbk1 := HBK1.out
      have d0 := hbk1.cell 0; have d1 := hbk1.cell 1; have d2 := hbk1.cell 2; have d3 := hbk1.cell 3
      simp at d0 d1 d2 d3
      clear ho1 hb1 hbk1 c0 c1 c2 c3
      by_cases hc : c = 0
      · subst hc
        have HGG := hide (HGOk.out acc rfl)
        have hxl := HLKk.out rfl
        simp only at hxl
        rw [HQ.out] at hxl
        have h1k := HK1k.out
        obtain ⟨lo, hlo⟩ : ∃ lo, fr - k * f = lo := ⟨_, rfl⟩
        obtain ⟨hi, hhi⟩ : ∃ hi, min xs.length (fr + n - k * f) = hi := ⟨_, rfl⟩
        have HPP := hide (show partK s fr n k = midL xs lo hi xs.length by rw [HPKk.out, hlo, hhi])
        rw [HQ.out] at hlo hhi
        have hlh : lo < hi := by omega
        have hhl : hi ≤ xs.length := by omega
        have emax : max 0 ((fr : Int) - (q : Int)) = (lo : Int) := by omega
        have emin : min (xs.length : Int) ((fr : Int) + (n : Int) - (q : Int)) = (hi : Int) := by omega
        have HSZX := hide hxl
        have hncap : ¬ cap1 = lo := by omega
        obtain ⟨b, off, rfl, hbw1, hcl1⟩ := hx1 lo xs[lo] (List.getElem?_eq_getElem (by omega))
        clear hbw1 hcl1
        have HSUB := hide (RdI.sub HO1.out.rd hlh hhl)
        have HML := hide (midL_end hhl (lo := lo))
        have hal2 : acc.length + (hi - lo) ≤ 17592186044416 := by omega
        have hbase : w.heap.size + 1 ≤ w1.heap.size := by omega
        clear hlo hhi hxl h1k hx1
        have hal3 : acc.length + ((xs.drop lo).take (hi - lo)).length ≤ 17592186044416 := by rw [List.length_take]; omega
        have HPL := hide (show ((xs.drop lo).take (hi - lo)).length ≤ 70000 by rw [List.length_take, List.length_drop]; omega)
        have HRX := hide HO1.out.rd
        rw [HML.out] at HPP
        generalize (xs.drop lo).take (hi - lo) = ys at *
        go_wp2_with (first | (go_at_call 27; refine (c_size _ xs _ HRX.out).mono ?_; rintro e w' ⟨rfl, rfl⟩) | (at_builtin; refine appm_i64 rfl _ _ rfl rfl HOA.out rfl HSUB.out hal3 hbase ?_; intro v5 w5 ho5 hg5 hv5; have hb5 := below_own HB2.out HOA.out hg5 (by omega) (by omega); have HO5 := hide ho5; have HB5 := hide hb5; have HBK5 := hide (HBK1.out.grown hg5 (fun e => by have h1 := (HOA.out.lt _ e.symm).1; omega)); clear ho5 hb5 hg5 hv5))
        go_roundw
        case rel => exact ⟨k + 1, acc ++ ys, by omega, by omega, by go_num, by have := HPL.out; rw [List.length_append]; omega, by rw [← HPP.out, ← HRUN.out, HGG.out], HBK5.out, HO5.out, HB5.out⟩
        case measure => first | (simp [intOf]; done) | (simp [intOf]; omega)
      · have HE := hide (HNOk.out acc xs c rfl hc)
        have ht : (c != 0) = true := by simpa using hc
        clear hc
        go_wp2
        go_ret2
        exact SlR.mkE (by rw [← HRUN.out]; exact HE.out) HB2.out
    · have hkeq : k = E := by omega
      have HKE := hide hkeq
      have hqb : q ≤ 5000 := by have := HLE.out; rw [← hkeq, HQ.out] at this; omega
      by_cases hn0 : n = 0
      · clear hif hkeq
        subst hn0
        by_cases hqq : (q : Int) < (fr : Int)
        · go_wp2
          go_ret2
          exact SlR.mk (by rw [← HRUN.out, HKE.out, Nat.sub_self]; rfl) (HO.out.more (by omega)) HB.out
        · go_wp2
          go_ret2
          exact SlR.mk (by rw [← HRUN.out, HKE.out, Nat.sub_self]; rfl) (HO.out.more (by omega)) HB.out
      · have t2 : ¬ (q : Int) < (fr : Int) + (n : Int) := by
          intro h1
          have := hif.1 ⟨by omega, by omega⟩
          omega
        clear hif hkeq
        go_wp2
        go_ret2
        exact SlR.mk (by rw [← HRUN.out, HKE.out, Nat.sub_self]; rfl) (HO.out.more (by omega)) HB.out
end
section
open Go.RowKit
def ldSigF (s : ByteArray) : List Int × Int := if (placesF s).2 ≠ 0 then ([], (placesF s).2) else rangeF s 0 (numS s 6)
theorem ldsig1 {s : ByteArray} {ps : List Int} {c : Int} (h : placesF s = (ps, c)) (hc : c ≠ 0) : ldSigF s = ([], c) := by unfold ldSigF; rw [h]; exact if_pos hc
theorem ldsig2 {s : ByteArray} {ps : List Int} (h : placesF s = (ps, 0)) : ldSigF s = rangeF s 0 (numS s 6) := by unfold ldSigF; rw [h]; simp
def ldRngF (s : ByteArray) (fr n : Int) : List Int × Int := if (placesF s).2 ≠ 0 then ([], (placesF s).2) else if inB fr 0 (numS s 6 : Nat) = false then ([], 2) else if inB n 0 ((numS s 6 : Nat) - fr) = false then ([], 2) else rangeF s fr.toNat n.toNat
theorem ldrng1 {s : ByteArray} {fr n : Int} {ps : List Int} {c : Int} (h : placesF s = (ps, c)) (hc : c ≠ 0) : ldRngF s fr n = ([], c) := by unfold ldRngF; rw [h]; exact if_pos hc
theorem ldrng2 {s : ByteArray} {fr n : Int} {ps : List Int} (h : placesF s = (ps, 0)) (h1 : inB fr 0 (numS s 6 : Nat) = false) : ldRngF s fr n = ([], 2) := by unfold ldRngF; rw [h]; simp only; rw [if_neg (by simp), if_pos h1]
theorem ldrng3 {s : ByteArray} {fr n : Int} {ps : List Int} (h : placesF s = (ps, 0)) (h1 : inB fr 0 (numS s 6 : Nat) = true) (h2 : inB n 0 ((numS s 6 : Nat) - fr) = false) : ldRngF s fr n = ([], 2) := by
  unfold ldRngF; rw [h]; simp only; rw [if_neg (by simp), if_neg (by rw [h1]; simp), if_pos h2]
theorem ldrng4 {s : ByteArray} {fr n : Nat} {ps : List Int} (h : placesF s = (ps, 0)) (h1 : inB fr 0 (numS s 6 : Nat) = true) (h2 : inB n 0 ((numS s 6 : Nat) - (fr : Int)) = true) : ldRngF s fr n = rangeF s fr n := by
  unfold ldRngF; rw [h]; simp only; rw [if_neg (by simp), if_neg (by rw [h1]; simp), if_neg (by rw [h2]; simp)]; simp
set_option maxHeartbeats 1000000 in
set_option maxRecDepth 100000 in
theorem c_sLoadSignal (s : ByteArray) (w : World) (hs : s.size ≤ 1048576) : Calls Tryz.prog 21 #[.string s] w (SlR (ldSigF s) w) := by
  obtain ⟨ps, c, hp⟩ : ∃ ps c, placesF s = (ps, c) := ⟨_, _, rfl⟩
  by_cases hc : c = 0
  · subst hc
    obtain ⟨t, rfl, HO⟩ := opn_of hp hs
    have HPL := hide (fun w => places_ok hp w (by omega))
    have HLO := hide (fun v w h => c_l30Range HO 0 (numS s 6) (by omega) v w h)
    have HE := hide (ldsig2 hp)
    have hn4 := HO.n4
    have HOO := hide HO; clear HO hp
    generalize ldSigF s = L at *
    generalize rangeF s 0 (numS s 6) = K at *
    generalize numS s 6 = n at *
    generalize numS s 4 = f at *
    go_enter Tryz.func21, Tryz.ntmps21
    go_wp2_with fail
    refine (HPL.out _).mono ?_; rintro e w1 ⟨v1, rfl, ho1, hb1⟩
    have HB1 := hide hb1; have HO1 := hide ho1; clear hb1 ho1
    go_wp2_with fail
    refine (HLO.out _ _ HO1.out.rd).mono ?_; rintro e w2 ⟨v2, rfl, ho2, hb2⟩
    have HB2 := hide (bthen HB1.out HB1.out.size hb2); have HO2 := hide (ho2.more HB1.out.size); clear ho2 hb2
    go_wp2
    go_ret2
    rw [HE.out]
    exact SlR.mk rfl HO2.out HB2.out
  · have HE := hide (ldsig1 hp hc)
    have HPL := hide (fun w => places_err hp hc w (by omega))
    have ht : (c != 0) = true := by simpa using hc
    clear hp hc
    go_enter Tryz.func21, Tryz.ntmps21
    go_wp2_with fail
    refine (HPL.out _).mono ?_; rintro e w1 ⟨v1, rfl, hb1⟩
    have HB1 := hide hb1; clear hb1
    go_wp2
    go_ret2
    exact SlR.mkE HE.out HB1.out
set_option maxHeartbeats 1000000 in
set_option maxRecDepth 100000 in
theorem c_iLoadSignal (s : ByteArray) (w : World) (hs : s.size ≤ 1048576) : Calls Tryz.prog 9 #[.string s] w (SlR (ldSigF s) w) := by
  obtain ⟨ps, c, hp⟩ : ∃ ps c, placesF s = (ps, c) := ⟨_, _, rfl⟩
  by_cases hc : c = 0
  · subst hc
    obtain ⟨t, rfl, HO⟩ := opn_of hp hs
    have HPL := hide (fun w => open_ok hp w (by omega))
    have hlen : (t.map (fun (n : Nat) => (n : Int))).length = cntF s + 1 := by rw [List.length_map]; exact HO.len
    have HLO := hide (fun A cap w h => c_loadRange HO 0 (numS s 6) (by omega) A cap w h)
    have HE := hide (ldsig2 hp)
    have hn4 := HO.n4
    have HOO := hide HO; clear HO hp
    generalize ldSigF s = L at *
    generalize rangeF s 0 (numS s 6) = K at *
    generalize cntF s = C at *
    generalize numS s 6 = n at *
    generalize numS s 4 = f at *
    go_enter Tryz.func9, Tryz.ntmps9
    go_wp2_with fail
    refine (HPL.out _).mono ?_; rintro e w1 ⟨A, cap, rfl, ho1, hb1⟩
    have HB1 := hide hb1; have HO1 := hide ho1; have hsz1 := hb1.size; clear hb1 ho1
    rw [hlen] at HO1 ⊢
    have hal := (Below.refl w1.heap.size w1).alloc (Nat.le_refl _) (.cells #[.string s, .int .i64 (n : Int), .int .i64 (f : Int), .slice A (C + 1) cap] 50)
    have HAL := hide hal; clear hal
    go_wp2_with fail
    refine (HLO.out _ _ _ (HO1.out.rd.below HAL.out)).mono ?_; rintro e w2 ⟨v2, rfl, ho2, hb2⟩
    have HB2 := hide (HB1.out.trans ((HAL.out.trans (hb2.mono HAL.out.size)).mono hsz1)); have HO2 := hide (ho2.more (Nat.le_trans hsz1 HAL.out.size)); clear ho2 hb2
    go_wp2
    go_ret2
    rw [HE.out]
    exact SlR.mk rfl HO2.out HB2.out
  · have HE := hide (ldsig1 hp hc)
    have HPL := hide (fun w => open_err hp hc w (by omega))
    have ht : (c != 0) = true := by simpa using hc
    clear hp hc
    go_enter Tryz.func9, Tryz.ntmps9
    go_wp2_with fail
    refine (HPL.out _).mono ?_; rintro e w1 ⟨t, n, f, A, l, cap, rfl, hb1⟩
    have HB1 := hide hb1; have hsz1 := hb1.size; clear hb1
    go_wp2
    go_ret2
    exact SlR.mkE HE.out (HB1.out.alloc hsz1 _)
set_option maxHeartbeats 1000000 in
set_option maxRecDepth 100000 in
theorem c_iLoadRange (s : ByteArray) (fr n : Int) (w : World) (hs : s.size ≤ 1048576) : Calls Tryz.prog 12 #[.string s, .int .i64 fr, .int .i64 n] w (SlR (ldRngF s fr n) w) := by
  obtain ⟨ps, c, hp⟩ : ∃ ps c, placesF s = (ps, c) := ⟨_, _, rfl⟩
  by_cases hc : c = 0
  · subst hc
    obtain ⟨t, rfl, HO⟩ := opn_of hp hs
    have HPL := hide (fun w => open_ok hp w (by omega))
    have hlen : (t.map (fun (n : Nat) => (n : Int))).length = cntF s + 1 := by rw [List.length_map]; exact HO.len
    have hn4 := HO.n4
    cases h1 : inB fr 0 (numS s 6 : Nat)
    · have HE := hide (ldrng2 (n := n) hp h1)
      clear HO hp
      generalize cntF s = C at *
      generalize numS s 6 = N at *
      generalize numS s 4 = f at *
      go_enter Tryz.func12, Tryz.ntmps12
      go_wp2_with fail
      refine (HPL.out _).mono ?_; rintro e w1 ⟨A, cap, rfl, ho1, hb1⟩
      have HB1 := hide hb1; have hsz1 := hb1.size; clear hb1 ho1
      go_wp2_with (go_at_call 25; refine (c_within _ _ _ _).mono ?_; rintro e w' ⟨rfl, rfl⟩)
      go_ret2
      exact SlR.mkE HE.out (HB1.out.alloc hsz1 _)
    · have h1' := inB_true.1 h1
      obtain ⟨fr, rfl⟩ := Int.eq_ofNat_of_zero_le h1'.1
      cases h2 : inB n 0 ((numS s 6 : Nat) - (fr : Int))
      · have HE := hide (ldrng3 hp h1 h2)
        clear HO hp
        generalize cntF s = C at *
        generalize numS s 6 = N at *
        generalize numS s 4 = f at *
        go_enter Tryz.func12, Tryz.ntmps12
        go_wp2_with fail
        refine (HPL.out _).mono ?_; rintro e w1 ⟨A, cap, rfl, ho1, hb1⟩
        have HB1 := hide hb1; have hsz1 := hb1.size; clear hb1 ho1
        go_wp2_with (go_at_call 25; refine (c_within _ _ _ _).mono ?_; rintro e w' ⟨rfl, rfl⟩)
        go_ret2
        exact SlR.mkE HE.out (HB1.out.alloc hsz1 _)
      · have h2' := inB_true.1 h2
        obtain ⟨n, rfl⟩ := Int.eq_ofNat_of_zero_le h2'.1
        have HLO := hide (fun A cap w h => c_loadRange HO fr n (by omega) A cap w h)
        have HE := hide (ldrng4 hp h1 h2)
        have HOO := hide HO; clear HO hp
        generalize ldRngF s fr n = L at *
        generalize rangeF s fr n = K at *
        generalize cntF s = C at *
        generalize numS s 6 = N at *
        generalize numS s 4 = f at *
        go_enter Tryz.func12, Tryz.ntmps12
        go_wp2_with fail
        refine (HPL.out _).mono ?_; rintro e w1 ⟨A, cap, rfl, ho1, hb1⟩
        have HB1 := hide hb1; have HO1 := hide ho1; have hsz1 := hb1.size; clear hb1 ho1
        rw [hlen] at HO1 ⊢
        have hal := (Below.refl w1.heap.size w1).alloc (Nat.le_refl _) (.cells #[.string s, .int .i64 (N : Int), .int .i64 (f : Int), .slice A (C + 1) cap] 50)
        have HAL := hide hal; clear hal
        go_wp2_with (first | (go_at_call 25; refine (c_within _ _ _ _).mono ?_; rintro e w' ⟨rfl, rfl⟩))
        refine (HLO.out _ _ _ (HO1.out.rd.below HAL.out)).mono ?_; rintro e w2 ⟨v2, rfl, ho2, hb2⟩
        have HB2 := hide (HB1.out.trans ((HAL.out.trans (hb2.mono HAL.out.size)).mono hsz1)); have HO2 := hide (ho2.more (Nat.le_trans hsz1 HAL.out.size)); clear ho2 hb2
        go_wp2
        go_ret2
        rw [HE.out]
        exact SlR.mk rfl HO2.out HB2.out
  · have HE := hide (ldrng1 (fr := fr) (n := n) hp hc)
    have HPL := hide (fun w => open_err hp hc w (by omega))
    have ht : (c != 0) = true := by simpa using hc
    clear hp hc
    go_enter Tryz.func12, Tryz.ntmps12
    go_wp2_with fail
    refine (HPL.out _).mono ?_; rintro e w1 ⟨t, n, f, A, l, cap, rfl, hb1⟩
    have HB1 := hide hb1; have hsz1 := hb1.size; clear hb1
    go_wp2
    go_ret2
    exact SlR.mkE HE.out (HB1.out.alloc hsz1 _)
end
section
open Go.RowKit
theorem rngF_len {s : ByteArray} {fr n : Nat} : ∀ (c k : Nat) (acc : List Int), (rngF s fr n c k acc).1.length ≤ acc.length + 70000 * c
  | 0, _, acc => by simp [rngF]
  | c + 1, k, acc => by
    simp only [rngF]
    split
    · simp
    · have h1 := rngF_len (s := s) (fr := fr) (n := n) c (k + 1) (acc ++ partK s fr n k)
      have h2 := midL_len (frK s k).1 (fr - k * numS s 4) (min (frK s k).1.length (fr + n - k * numS s 4)) (frK s k).1.length
      have h3 := frK_bd s k
      rw [List.length_append] at h1
      have h4 : (partK s fr n k).length ≤ 70000 := by unfold partK; omega
      omega
theorem rangeF_len {s : ByteArray} {fr n : Nat} : (rangeF s fr n).1.length ≤ 70000 * (fr + n + 1) := by
  have h := rngF_len (s := s) (fr := fr) (n := n) (endK (numS s 4) fr n - fr / numS s 4) (fr / numS s 4) []
  have h2 : endK (numS s 4) fr n ≤ fr + n + 1 := by
    unfold endK
    split
    · have := Nat.div_le_self fr (numS s 4); omega
    · have := Nat.div_le_self (fr + n - 1) (numS s 4); omega
  have h3 : endK (numS s 4) fr n - fr / numS s 4 ≤ endK (numS s 4) fr n := Nat.sub_le _ _
  unfold rangeF
  simp only [List.length_nil] at h
  generalize endK (numS s 4) fr n - fr / numS s 4 = c at *
  omega
theorem ldSigF_len {s : ByteArray} : (ldSigF s).1.length ≤ 5000000000 := by
  unfold ldSigF
  split
  · simp
  · have h := rangeF_len (s := s) (fr := 0) (n := numS s 6)
    have h2 := numS_lt s 6
    omega
theorem ldRngF_len {s : ByteArray} {fr n : Int} : (ldRngF s fr n).1.length ≤ 5000000000 := by
  unfold ldRngF
  split
  · simp
  · split
    · simp
    · split
      · simp
      · rename_i h1 h2
        have h1' := inB_true.1 (by simpa using h1)
        have h2' := inB_true.1 (by simpa using h2)
        have h := rangeF_len (s := s) (fr := fr.toNat) (n := n.toNat)
        have h3 := numS_lt s 6
        omega
theorem cs_LoadSignal (s : ByteArray) (p : List Int × Int) (w : World) (hs : s.size ≤ 1048576) (hp : ldSigF s = p) : Calls Tryz.prog 21 #[.string s] w fun e w' => ∃ v, e = .returned (.tuple #[v, .int .i64 p.2]) ∧ OwI 2 w' w.heap.size v p.1 ∧ Below w.heap.size w w' := by
  subst hp; exact c_sLoadSignal s w hs
theorem ci_LoadSignal (s : ByteArray) (p : List Int × Int) (w : World) (hs : s.size ≤ 1048576) (hp : ldSigF s = p) : Calls Tryz.prog 9 #[.string s] w fun e w' => ∃ v, e = .returned (.tuple #[v, .int .i64 p.2]) ∧ OwI 2 w' w.heap.size v p.1 ∧ Below w.heap.size w w' := by
  subst hp; exact c_iLoadSignal s w hs
end
open Go.RowKit
theorem ci_LoadRange (s : ByteArray) (fr : Int) (n : Int) (p : List Int × Int) (w : World) (hs : s.size ≤ 1048576) (hp : ldRngF s fr n = p) : Calls Tryz.prog 12 #[.string s, .int .i64 fr, .int .i64 n] w fun e w' => ∃ v, e = .returned (.tuple #[v, .int .i64 p.2]) ∧ OwI 2 w' w.heap.size v p.1 ∧ Below w.heap.size w w' := by
  subst hp; exact c_iLoadRange s fr n w hs
end Go.Proofs.YtpmflkoepnanoaaGreat
