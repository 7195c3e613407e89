/- Contracts: a store's signal and a part of it that are loaded; both sides. -/
import Derived.Test.YtopgjanpbfnlnaaJf
namespace Go.Proofs.Ytopgjanpbfnlnaa
open Go.RowKit
def ldSigF (s : ByteArray) : List Int × Int := if (placesF s).2 ≠ 0 then ([], (placesF s).2) else rangeF s 0 (numS s 6)
theorem ldsig1 {s : ByteArray} {ps : List Int} {c : Int} (h : placesF s = (ps, c)) (hc : c ≠ 0) : ldSigF s = ([], c) := by unfold ldSigF; rw [h]; exact if_pos hc
theorem ldsig2 {s : ByteArray} {ps : List Int} (h : placesF s = (ps, 0)) : ldSigF s = rangeF s 0 (numS s 6) := by unfold ldSigF; rw [h]; simp
def ldRngF (s : ByteArray) (fr n : Int) : List Int × Int := if (placesF s).2 ≠ 0 then ([], (placesF s).2) else if inB fr 0 (numS s 6 : Nat) = false then ([], 2) else if inB n 0 ((numS s 6 : Nat) - fr) = false then ([], 2) else rangeF s fr.toNat n.toNat
theorem ldrng1 {s : ByteArray} {fr n : Int} {ps : List Int} {c : Int} (h : placesF s = (ps, c)) (hc : c ≠ 0) : ldRngF s fr n = ([], c) := by unfold ldRngF; rw [h]; exact if_pos hc
theorem ldrng2 {s : ByteArray} {fr n : Int} {ps : List Int} (h : placesF s = (ps, 0)) (h1 : inB fr 0 (numS s 6 : Nat) = false) : ldRngF s fr n = ([], 2) := by unfold ldRngF; rw [h]; simp only; rw [if_neg (by simp), if_pos h1]
theorem ldrng3 {s : ByteArray} {fr n : Int} {ps : List Int} (h : placesF s = (ps, 0)) (h1 : inB fr 0 (numS s 6 : Nat) = true) (h2 : inB n 0 ((numS s 6 : Nat) - fr) = false) : ldRngF s fr n = ([], 2) := by
  unfold ldRngF; rw [h]; simp only; rw [if_neg (by simp), if_neg (by rw [h1]; simp), if_pos h2]
theorem ldrng4 {s : ByteArray} {fr n : Nat} {ps : List Int} (h : placesF s = (ps, 0)) (h1 : inB fr 0 (numS s 6 : Nat) = true) (h2 : inB n 0 ((numS s 6 : Nat) - (fr : Int)) = true) : ldRngF s fr n = rangeF s fr n := by
  unfold ldRngF; rw [h]; simp only; rw [if_neg (by simp), if_neg (by rw [h1]; simp), if_neg (by rw [h2]; simp)]; simp
set_option maxHeartbeats 1000000 in
set_option maxRecDepth 100000 in
theorem c_sLoadSignal (s : ByteArray) (w : World) (hs : s.size ≤ 1048576) : Calls Try.prog 43 #[.string s] w (SlR (ldSigF s) w) := by
  obtain ⟨ps, c, hp⟩ : ∃ ps c, placesF s = (ps, c) := ⟨_, _, rfl⟩
  by_cases hc : c = 0
  · subst hc
    obtain ⟨t, rfl, HO⟩ := opn_of hp hs
    have HPL := hide (fun w => places_ok hp w (by omega))
    have HLO := hide (fun v w h => c_l30Range HO 0 (numS s 6) (by omega) v w h)
    have HE := hide (ldsig2 hp)
    have hn4 := HO.n4
    have HOO := hide HO; clear HO hp
    generalize ldSigF s = L at *
    generalize rangeF s 0 (numS s 6) = K at *
    generalize numS s 6 = n at *
    generalize numS s 4 = f at *
    go_enter Try.func43, Try.ntmps43
    go_wp2_with fail
    refine (HPL.out _).mono ?_; rintro e w1 ⟨v1, rfl, ho1, hb1⟩
    have HB1 := hide hb1; have HO1 := hide ho1; clear hb1 ho1
    go_wp2_with fail
    refine (HLO.out _ _ HO1.out.rd).mono ?_; rintro e w2 ⟨v2, rfl, ho2, hb2⟩
    have HB2 := hide (bthen HB1.out HB1.out.size hb2); have HO2 := hide (ho2.more HB1.out.size); clear ho2 hb2
    go_wp2
    go_ret2
    rw [HE.out]
    exact SlR.mk rfl HO2.out HB2.out
  · have HE := hide (ldsig1 hp hc)
    have HPL := hide (fun w => places_err hp hc w (by omega))
    have ht : (c != 0) = true := by simpa using hc
    clear hp hc
    go_enter Try.func43, Try.ntmps43
    go_wp2_with fail
    refine (HPL.out _).mono ?_; rintro e w1 ⟨v1, rfl, hb1⟩
    have HB1 := hide hb1; clear hb1
    go_wp2
    go_ret2
    exact SlR.mkE HE.out HB1.out
set_option maxHeartbeats 1000000 in
set_option maxRecDepth 100000 in
theorem c_iLoadSignal (s : ByteArray) (w : World) (hs : s.size ≤ 1048576) : Calls Try.prog 44 #[.string s] w (SlR (ldSigF s) w) := by
  obtain ⟨ps, c, hp⟩ : ∃ ps c, placesF s = (ps, c) := ⟨_, _, rfl⟩
  by_cases hc : c = 0
  · subst hc
    obtain ⟨t, rfl, HO⟩ := opn_of hp hs
    have HPL := hide (fun w => open_ok hp w (by omega))
    have hlen : (t.map (fun (n : Nat) => (n : Int))).length = cntF s + 1 := by rw [List.length_map]; exact HO.len
    have HLO := hide (fun A cap w h => c_loadRange HO 0 (numS s 6) (by omega) A cap w h)
    have HE := hide (ldsig2 hp)
    have hn4 := HO.n4
    have HOO := hide HO; clear HO hp
    generalize ldSigF s = L at *
    generalize rangeF s 0 (numS s 6) = K at *
    generalize cntF s = C at *
    generalize numS s 6 = n at *
    generalize numS s 4 = f at *
    go_enter Try.func44, Try.ntmps44
    go_wp2_with fail
    refine (HPL.out _).mono ?_; rintro e w1 ⟨A, cap, rfl, ho1, hb1⟩
    have HB1 := hide hb1; have HO1 := hide ho1; have hsz1 := hb1.size; clear hb1 ho1
    rw [hlen] at HO1 ⊢
    have hal := (Below.refl w1.heap.size w1).alloc (Nat.le_refl _) (.cells #[.string s, .int .i64 (n : Int), .int .i64 (f : Int), .slice A (C + 1) cap] 60)
    have HAL := hide hal; clear hal
    go_wp2_with fail
    refine (HLO.out _ _ _ (HO1.out.rd.below HAL.out)).mono ?_; rintro e w2 ⟨v2, rfl, ho2, hb2⟩
    have HB2 := hide (HB1.out.trans ((HAL.out.trans (hb2.mono HAL.out.size)).mono hsz1)); have HO2 := hide (ho2.more (Nat.le_trans hsz1 HAL.out.size)); clear ho2 hb2
    go_wp2
    go_ret2
    rw [HE.out]
    exact SlR.mk rfl HO2.out HB2.out
  · have HE := hide (ldsig1 hp hc)
    have HPL := hide (fun w => open_err hp hc w (by omega))
    have ht : (c != 0) = true := by simpa using hc
    clear hp hc
    go_enter Try.func44, Try.ntmps44
    go_wp2_with fail
    refine (HPL.out _).mono ?_; rintro e w1 ⟨t, n, f, A, l, cap, rfl, hb1⟩
    have HB1 := hide hb1; have hsz1 := hb1.size; clear hb1
    go_wp2
    go_ret2
    exact SlR.mkE HE.out (HB1.out.alloc hsz1 _)
set_option maxHeartbeats 1000000 in
set_option maxRecDepth 100000 in
theorem c_sLoadRange (s : ByteArray) (fr n : Int) (w : World) (hs : s.size ≤ 1048576) : Calls Try.prog 49 #[.string s, .int .i64 fr, .int .i64 n] w (SlR (ldRngF s fr n) w) := by
  obtain ⟨ps, c, hp⟩ : ∃ ps c, placesF s = (ps, c) := ⟨_, _, rfl⟩
  by_cases hc : c = 0
  · subst hc
    obtain ⟨t, rfl, HO⟩ := opn_of hp hs
    have HPL := hide (fun w => places_ok hp w (by omega))
    have hn4 := HO.n4
    cases h1 : inB fr 0 (numS s 6 : Nat)
    · have HE := hide (ldrng2 (n := n) hp h1)
      clear HO hp
      generalize numS s 6 = N at *
      generalize numS s 4 = f at *
      go_enter Try.func49, Try.ntmps49
      go_wp2_with fail
      refine (HPL.out _).mono ?_; rintro e w1 ⟨v1, rfl, ho1, hb1⟩
      have HB1 := hide hb1; clear hb1 ho1
      go_wp2_with (go_at_call 59; refine (c_l00In _ _ _ _).mono ?_; rintro e w' ⟨rfl, rfl⟩)
      go_ret2
      exact SlR.mkE HE.out HB1.out
    · have h1' := inB_true.1 h1
      obtain ⟨fr, rfl⟩ := Int.eq_ofNat_of_zero_le h1'.1
      cases h2 : inB n 0 ((numS s 6 : Nat) - (fr : Int))
      · have HE := hide (ldrng3 hp h1 h2)
        clear HO hp
        generalize numS s 6 = N at *
        generalize numS s 4 = f at *
        go_enter Try.func49, Try.ntmps49
        go_wp2_with fail
        refine (HPL.out _).mono ?_; rintro e w1 ⟨v1, rfl, ho1, hb1⟩
        have HB1 := hide hb1; clear hb1 ho1
        go_wp2_with (go_at_call 59; refine (c_l00In _ _ _ _).mono ?_; rintro e w' ⟨rfl, rfl⟩)
        go_ret2
        exact SlR.mkE HE.out HB1.out
      · have h2' := inB_true.1 h2
        obtain ⟨n, rfl⟩ := Int.eq_ofNat_of_zero_le h2'.1
        have HLO := hide (fun v w h => c_l30Range HO fr n (by omega) v w h)
        have HE := hide (ldrng4 hp h1 h2)
        have HOO := hide HO; clear HO hp
        generalize ldRngF s fr n = L at *
        generalize rangeF s fr n = K at *
        generalize numS s 6 = N at *
        generalize numS s 4 = f at *
        go_enter Try.func49, Try.ntmps49
        go_wp2_with fail
        refine (HPL.out _).mono ?_; rintro e w1 ⟨v1, rfl, ho1, hb1⟩
        have HB1 := hide hb1; have HO1 := hide ho1; clear hb1 ho1
        go_wp2_with (first | (go_at_call 59; refine (c_l00In _ _ _ _).mono ?_; rintro e w' ⟨rfl, rfl⟩))
        refine (HLO.out _ _ HO1.out.rd).mono ?_; rintro e w2 ⟨v2, rfl, ho2, hb2⟩
        have HB2 := hide (bthen HB1.out HB1.out.size hb2); have HO2 := hide (ho2.more HB1.out.size); clear ho2 hb2
        go_wp2
        go_ret2
        rw [HE.out]
        exact SlR.mk rfl HO2.out HB2.out
  · have HE := hide (ldrng1 (fr := fr) (n := n) hp hc)
    have HPL := hide (fun w => places_err hp hc w (by omega))
    have ht : (c != 0) = true := by simpa using hc
    clear hp hc
    go_enter Try.func49, Try.ntmps49
    go_wp2_with fail
    refine (HPL.out _).mono ?_; rintro e w1 ⟨v1, rfl, hb1⟩
    have HB1 := hide hb1; clear hb1
    go_wp2
    go_ret2
    exact SlR.mkE HE.out HB1.out
set_option maxHeartbeats 1000000 in
set_option maxRecDepth 100000 in
theorem c_iLoadRange (s : ByteArray) (fr n : Int) (w : World) (hs : s.size ≤ 1048576) : Calls Try.prog 50 #[.string s, .int .i64 fr, .int .i64 n] w (SlR (ldRngF s fr n) w) := by
  obtain ⟨ps, c, hp⟩ : ∃ ps c, placesF s = (ps, c) := ⟨_, _, rfl⟩
  by_cases hc : c = 0
  · subst hc
    obtain ⟨t, rfl, HO⟩ := opn_of hp hs
    have HPL := hide (fun w => open_ok hp w (by omega))
    have hlen : (t.map (fun (n : Nat) => (n : Int))).length = cntF s + 1 := by rw [List.length_map]; exact HO.len
    have hn4 := HO.n4
    cases h1 : inB fr 0 (numS s 6 : Nat)
    · have HE := hide (ldrng2 (n := n) hp h1)
      clear HO hp
      generalize cntF s = C at *
      generalize numS s 6 = N at *
      generalize numS s 4 = f at *
      go_enter Try.func50, Try.ntmps50
      go_wp2_with fail
      refine (HPL.out _).mono ?_; rintro e w1 ⟨A, cap, rfl, ho1, hb1⟩
      have HB1 := hide hb1; have hsz1 := hb1.size; clear hb1 ho1
      go_wp2_with (go_at_call 62; refine (c_within _ _ _ _).mono ?_; rintro e w' ⟨rfl, rfl⟩)
      go_ret2
      exact SlR.mkE HE.out (HB1.out.alloc hsz1 _)
    · have h1' := inB_true.1 h1
      obtain ⟨fr, rfl⟩ := Int.eq_ofNat_of_zero_le h1'.1
      cases h2 : inB n 0 ((numS s 6 : Nat) - (fr : Int))
      · have HE := hide (ldrng3 hp h1 h2)
        clear HO hp
        generalize cntF s = C at *
        generalize numS s 6 = N at *
        generalize numS s 4 = f at *
        go_enter Try.func50, Try.ntmps50
        go_wp2_with fail
        refine (HPL.out _).mono ?_; rintro e w1 ⟨A, cap, rfl, ho1, hb1⟩
        have HB1 := hide hb1; have hsz1 := hb1.size; clear hb1 ho1
        go_wp2_with (go_at_call 62; refine (c_within _ _ _ _).mono ?_; rintro e w' ⟨rfl, rfl⟩)
        go_ret2
        exact SlR.mkE HE.out (HB1.out.alloc hsz1 _)
      · have h2' := inB_true.1 h2
        obtain ⟨n, rfl⟩ := Int.eq_ofNat_of_zero_le h2'.1
        have HLO := hide (fun A cap w h => c_loadRange HO fr n (by omega) A cap w h)
        have HE := hide (ldrng4 hp h1 h2)
        have HOO := hide HO; clear HO hp
        generalize ldRngF s fr n = L at *
        generalize rangeF s fr n = K at *
        generalize cntF s = C at *
        generalize numS s 6 = N at *
        generalize numS s 4 = f at *
        go_enter Try.func50, Try.ntmps50
        go_wp2_with fail
        refine (HPL.out _).mono ?_; rintro e w1 ⟨A, cap, rfl, ho1, hb1⟩
        have HB1 := hide hb1; have HO1 := hide ho1; have hsz1 := hb1.size; clear hb1 ho1
        rw [hlen] at HO1 ⊢
        have hal := (Below.refl w1.heap.size w1).alloc (Nat.le_refl _) (.cells #[.string s, .int .i64 (N : Int), .int .i64 (f : Int), .slice A (C + 1) cap] 60)
        have HAL := hide hal; clear hal
        go_wp2_with (first | (go_at_call 62; refine (c_within _ _ _ _).mono ?_; rintro e w' ⟨rfl, rfl⟩))
        refine (HLO.out _ _ _ (HO1.out.rd.below HAL.out)).mono ?_; rintro e w2 ⟨v2, rfl, ho2, hb2⟩
        have HB2 := hide (HB1.out.trans ((HAL.out.trans (hb2.mono HAL.out.size)).mono hsz1)); have HO2 := hide (ho2.more (Nat.le_trans hsz1 HAL.out.size)); clear ho2 hb2
        go_wp2
        go_ret2
        rw [HE.out]
        exact SlR.mk rfl HO2.out HB2.out
  · have HE := hide (ldrng1 (fr := fr) (n := n) hp hc)
    have HPL := hide (fun w => open_err hp hc w (by omega))
    have ht : (c != 0) = true := by simpa using hc
    clear hp hc
    go_enter Try.func50, Try.ntmps50
    go_wp2_with fail
    refine (HPL.out _).mono ?_; rintro e w1 ⟨t, n, f, A, l, cap, rfl, hb1⟩
    have HB1 := hide hb1; have hsz1 := hb1.size; clear hb1
    go_wp2
    go_ret2
    exact SlR.mkE HE.out (HB1.out.alloc hsz1 _)
end Go.Proofs.Ytopgjanpbfnlnaa
