/- Contracts: a store that is opened, said plainly; a frame that is loaded; both sides. -/
import Derived.Test.YtopgjanpbfnlnaaGreatJb
namespace Go.Proofs.YtopgjanpbfnlnaaGreat
open Go.RowKit
/-- A slice of the call's own, and a code. -/
def SlR (p : List Int × Int) (w : World) (e : Ending) (w' : World) : Prop := ∃ v, e = .returned (.tuple #[v, .int .i64 p.2]) ∧ OwI 2 w' w.heap.size v p.1 ∧ Below w.heap.size w w'
theorem SlR.mkE {p : List Int × Int} {w w' : World} {c : Int} (h : p = ([], c)) (hb : Below w.heap.size w w') : SlR p w (.returned (.tuple #[.slice none 0 0, .int .i64 c])) w' := ⟨_, by rw [h], by rw [h]; exact OwI.nil_ _ _ _, hb⟩
theorem SlR.mk {p : List Int × Int} {w w' : World} {v : Value} {xs : List Int} {c : Int} (h : p = (xs, c)) (ho : OwI 2 w' w.heap.size v xs) (hb : Below w.heap.size w w') : SlR p w (.returned (.tuple #[v, .int .i64 c])) w' := ⟨_, by rw [h], by rw [h]; exact ho, hb⟩
theorem places_ok {s : ByteArray} {ps : List Int} (h : placesF s = (ps, 0)) (w : World) (hs : s.size ≤ 1073741824) : Calls Tryz.prog 44 #[.string s] w fun e w' =>
    ∃ v, e = .returned (.tuple #[v, .int .i64 (numS s 6 : Nat), .int .i64 (numS s 4 : Nat), .int .i64 0]) ∧ OwI 2 w' w.heap.size v ps ∧ Below w.heap.size w w' := by
  refine (c_l30Places s w hs).mono ?_
  rintro e w' ⟨v, rfl, ho, hb⟩
  obtain ⟨t, _, _, _, h0⟩ := places_steps h
  rw [h] at ho ⊢
  refine ⟨v, ?_, ho, hb⟩
  rw [(infoF_ok h0).1]
  rfl
theorem places_err {s : ByteArray} {ps : List Int} {c : Int} (h : placesF s = (ps, c)) (hc : c ≠ 0) (w : World) (hs : s.size ≤ 1073741824) : Calls Tryz.prog 44 #[.string s] w fun e w' =>
    ∃ v, e = .returned (.tuple #[v, .int .i64 0, .int .i64 0, .int .i64 c]) ∧ Below w.heap.size w w' := by
  refine (c_l30Places s w hs).mono ?_
  rintro e w' ⟨v, rfl, ho, hb⟩
  rw [h]
  refine ⟨v, ?_, hb⟩
  simp only [hc, if_false]
theorem open_ok {s : ByteArray} {ps : List Int} (h : placesF s = (ps, 0)) (w : World) (hs : s.size ≤ 1073741824) : Calls Tryz.prog 33 #[.string s] w fun e w' =>
    ∃ A cap, e = .returned (.tuple #[.agg #[.string s, .int .i64 (numS s 6 : Nat), .int .i64 (numS s 4 : Nat), .slice A ps.length cap], .int .i64 0]) ∧ OwI 2 w' w.heap.size (.slice A ps.length cap) ps ∧ Below w.heap.size w w' := by
  refine (c_openStore s w hs).mono ?_
  rintro e w' ⟨v, t, n, f, c, rfl, hc, hok, ho, hb⟩
  obtain ⟨_, _, _, _, h0⟩ := places_steps h
  rw [h] at hc ho
  obtain ⟨rfl, rfl, rfl⟩ := hok hc
  subst hc
  obtain ⟨A, cap, rfl, _, _, _⟩ := ho.rd.open_
  refine ⟨A, cap, ?_, ho, hb⟩
  rw [(infoF_ok h0).1]
theorem open_err {s : ByteArray} {ps : List Int} {c : Int} (h : placesF s = (ps, c)) (hc : c ≠ 0) (w : World) (hs : s.size ≤ 1073741824) : Calls Tryz.prog 33 #[.string s] w fun e w' =>
    ∃ t n f A l cap, e = .returned (.tuple #[.agg #[.string t, .int .i64 n, .int .i64 f, .slice A l cap], .int .i64 c]) ∧ Below w.heap.size w w' := by
  refine (c_openStore s w hs).mono ?_
  rintro e w' ⟨v, t, n, f, c', rfl, hc', _, ho, hb⟩
  rw [h] at hc'
  subst hc'
  obtain ⟨A, cap, rfl, _, _, _⟩ := ho.rd.open_
  exact ⟨t, n, f, A, _, cap, rfl, hb⟩
/-- Place j of a store. -/
def plc (s : ByteArray) (j : Nat) : Nat := ((placesF s).1.getD j 0).toNat
/-- Frame j of a store. -/
def frK (s : ByteArray) (j : Nat) : List Int × Int := loadF s (plc s j) (plc s (j + 1)) (lenK (numS s 6) (numS s 4) j)
def cntF (s : ByteArray) : Nat := nch (numS s 6) (numS s 4)
/-- What is known of a store that opens. -/
structure Opn (s : ByteArray) (t : List Nat) : Prop where
  places : placesF s = (t.map (fun (n : Nat) => (n : Int)), 0)
  len : t.length = cntF s + 1
  steps : Steps t s.size
  n4 : numS s 6 ≤ 4000
  f1 : 16 ≤ numS s 4
  f2 : numS s 4 ≤ 256
  plcs : ∀ j, plc s j = t.getD j 0
  size : s.size ≤ 1048576
theorem opn_of {s : ByteArray} {ps : List Int} (h : placesF s = (ps, 0)) (hs : s.size ≤ 1048576) : ∃ t, ps = t.map (fun (n : Nat) => (n : Int)) ∧ Opn s t := by
  obtain ⟨t, rfl, h2, h3, h4⟩ := places_steps h
  have hi := infoF_ok h4
  refine ⟨t, rfl, h, h2, h3, hi.2.2.1, hi.2.2.2.1, hi.2.2.2.2, fun j => ?_, hs⟩
  unfold plc
  rw [h]
  simp only [List.getD_eq_getElem?_getD, List.getElem?_map]
  cases t[j]? <;> rfl
theorem Opn.lt {s : ByteArray} {t : List Nat} (h : Opn s t) {j : Nat} (hj : j < cntF s) : j + 1 < t.length ∧ j * numS s 4 < numS s 6 := ⟨by rw [h.len]; omega, (nch_lt h.f1).1 hj⟩
theorem Opn.cnt {s : ByteArray} {t : List Nat} (h : Opn s t) : cntF s ≤ 250 := by
  unfold cntF nch
  have h1 := h.n4; have h2 := h.f1
  apply Nat.le_of_lt_succ
  rw [Nat.div_lt_iff_lt_mul (by omega)]
  generalize numS s 4 = f at *
  generalize numS s 6 = n at *
  have : 251 * 16 ≤ 251 * f := Nat.mul_le_mul_left _ h2
  omega
theorem sLoad {s : ByteArray} {t : List Nat} (h : Opn s t) {j : Nat} (hj : j < cntF s) (v : Value) (w : World) (hr : RdI w v (t.map fun (x : Nat) => (x : Int))) :
    Calls Tryz.prog 45 #[.string s, v, .int .i64 (numS s 6 : Nat), .int .i64 (numS s 4 : Nat), .int .i64 (j : Int)] w (SlR (frK s j) w) := by
  obtain ⟨h1, h2⟩ := h.lt hj
  have := c_l30Load s v t (numS s 6) (numS s 4) j (plc s j) (plc s (j + 1)) w h.size hr h.steps h1 (h.plcs j).symm (h.plcs (j + 1)).symm h.n4 ⟨h.f1, h.f2⟩ h2
  exact this
theorem iLoad {s : ByteArray} {t : List Nat} (h : Opn s t) {j : Nat} (hj : j < cntF s) (v : Value) (w : World) (hr : RdI w v (t.map fun (x : Nat) => (x : Int))) :
    Calls Tryz.prog 40 #[stV s (numS s 6) (numS s 4) v, .int .i64 (j : Int)] w (SlR (frK s j) w) := by
  obtain ⟨h1, h2⟩ := h.lt hj
  have := c_load s v t (numS s 6) (numS s 4) j (plc s j) (plc s (j + 1)) w h.size hr h.steps h1 (h.plcs j).symm (h.plcs (j + 1)).symm h.n4 ⟨h.f1, h.f2⟩ h2
  exact this
theorem iCount {s : ByteArray} {t : List Nat} (h : Opn s t) (v : Value) (w : World) (hr : RdI w v (t.map fun (x : Nat) => (x : Int))) :
    Calls Tryz.prog 39 #[stV s (numS s 6) (numS s 4) v] w fun e w' => e = .returned (.int .i64 (cntF s : Nat)) ∧ Below w.heap.size w w' := by
  have hl : (t.map fun (x : Nat) => (x : Int)).length = cntF s + 1 := by rw [List.length_map]; exact h.len
  have hc := h.cnt
  refine (c_count s (numS s 6) (numS s 4) v _ w hr (by omega)).mono ?_
  rintro e w' ⟨rfl, hb⟩
  exact ⟨ret_int (by omega), hb⟩
theorem iLength {s : ByteArray} {t : List Nat} (h : Opn s t) {j : Nat} (hj : j < cntF s) (v : Value) (w : World) (hr : RdI w v (t.map fun (x : Nat) => (x : Int))) :
    Calls Tryz.prog 51 #[stV s (numS s 6) (numS s 4) v, .int .i64 (j : Int)] w fun e w' => e = .returned (.int .i64 (lenK (numS s 6) (numS s 4) j : Nat)) ∧ Below w.heap.size w w' :=
  c_length s (numS s 6) (numS s 4) j v _ w hr h.n4 (h.lt hj).2
theorem frK_len {s : ByteArray} {j : Nat} : (frK s j).2 = 0 → (frK s j).1.length = lenK (numS s 6) (numS s 4) j := by
  unfold frK loadF
  split
  · rename_i h; intro h2; exact absurd h2 h
  · split
    · intro h2; exact absurd h2 (by decide)
    · rename_i h; intro _; simpa using h
theorem frK_no {s : ByteArray} {j : Nat} : (frK s j).2 ≠ 0 → (frK s j).1 = [] := by
  unfold frK loadF
  split
  · intro _; rfl
  · split
    · intro _; rfl
    · rename_i h _; intro h2; exact absurd h2 (by simpa using h)
def ldFrF (s : ByteArray) (k : Int) : List Int × Int := if (placesF s).2 ≠ 0 then ([], (placesF s).2) else if inB k 0 ((cntF s : Int) - 1) = false then ([], 2) else frK s k.toNat
theorem ldfr1 {s : ByteArray} {k : Int} {ps : List Int} {c : Int} (h : placesF s = (ps, c)) (hc : c ≠ 0) : ldFrF s k = ([], c) := by unfold ldFrF; rw [h]; exact if_pos hc
theorem ldfr2 {s : ByteArray} {k : Int} {ps : List Int} (h : placesF s = (ps, 0)) (hk : inB k 0 ((cntF s : Int) - 1) = false) : ldFrF s k = ([], 2) := by unfold ldFrF; rw [h]; simp only; rw [if_neg (by simp), if_pos hk]
theorem ldfr3 {s : ByteArray} {j : Nat} {ps : List Int} (h : placesF s = (ps, 0)) (hk : j < cntF s) : ldFrF s (j : Int) = frK s j := by
  unfold ldFrF; rw [h]; simp only; rw [if_neg (by simp), if_neg (by rw [inB_true.2 (by omega)]; simp)]; simp
set_option maxHeartbeats 1000000 in
set_option maxRecDepth 100000 in
theorem c_iLoadFrame (s : ByteArray) (k : Int) (w : World) (hs : s.size ≤ 1048576) : Calls Tryz.prog 22 #[.string s, .int .i64 k] w (SlR (ldFrF s k) w) := by
  obtain ⟨ps, c, hp⟩ : ∃ ps c, placesF s = (ps, c) := ⟨_, _, rfl⟩
  by_cases hc : c = 0
  · subst hc
    obtain ⟨t, rfl, HO⟩ := opn_of hp hs
    have HPL := hide (fun w => open_ok hp w (by omega))
    have hlen : (t.map (fun (n : Nat) => (n : Int))).length = cntF s + 1 := by rw [List.length_map]; exact HO.len
    have hcnt := HO.cnt
    have HCO := hide (fun v w h => iCount HO v w h)
    cases hk : inB k 0 ((cntF s : Int) - 1)
    · have HE := hide (ldfr2 hp hk)
      have HOO := hide HO; clear HO hp
      generalize cntF s = C at *
      generalize numS s 6 = n at *
      generalize numS s 4 = f at *
      go_enter Tryz.func22, Tryz.ntmps22
      go_wp2_with fail
      refine (HPL.out _).mono ?_; rintro e w1 ⟨A, cap, rfl, ho1, hb1⟩
      have HB1 := hide hb1; have HO1 := hide ho1; have hsz1 := hb1.size; clear hb1 ho1
      rw [hlen] at HO1 ⊢
      have hal := (Below.refl w1.heap.size w1).alloc (Nat.le_refl _) (.cells #[.string s, .int .i64 (n : Int), .int .i64 (f : Int), .slice A (C + 1) cap] 52)
      have HAL := hide hal; clear hal
      go_wp2_with fail
      refine (HCO.out _ _ (HO1.out.rd.below HAL.out)).mono ?_; rintro e w2 ⟨rfl, hb2⟩
      have HB2 := hide (HB1.out.trans ((HAL.out.trans (hb2.mono HAL.out.size)).mono hsz1)); clear hb2
      go_wp2_with (go_at_call 29; refine (c_within _ _ _ _).mono ?_; rintro e w' ⟨rfl, rfl⟩)
      go_ret2
      exact SlR.mkE HE.out HB2.out
    · have hk2 := inB_true.1 hk
      obtain ⟨j, rfl⟩ := Int.eq_ofNat_of_zero_le hk2.1
      have hj : j < cntF s := by omega
      have HE := hide (ldfr3 hp hj)
      have HLO := hide (fun v w h => iLoad HO hj v w h)
      have HOO := hide HO; clear HO hp hk2
      generalize ldFrF s (j : Int) = L at *
      generalize frK s j = K at *
      generalize cntF s = C at *
      generalize numS s 6 = n at *
      generalize numS s 4 = f at *
      go_enter Tryz.func22, Tryz.ntmps22
      go_wp2_with fail
      refine (HPL.out _).mono ?_; rintro e w1 ⟨A, cap, rfl, ho1, hb1⟩
      have HB1 := hide hb1; have HO1 := hide ho1; have hsz1 := hb1.size; clear hb1 ho1
      rw [hlen] at HO1 ⊢
      have hal := (Below.refl w1.heap.size w1).alloc (Nat.le_refl _) (.cells #[.string s, .int .i64 (n : Int), .int .i64 (f : Int), .slice A (C + 1) cap] 52)
      have HAL := hide hal; clear hal
      go_wp2_with fail
      refine (HCO.out _ _ (HO1.out.rd.below HAL.out)).mono ?_; rintro e w2 ⟨rfl, hb2⟩
      have hbk := (Bk.born w1 52 #[.string s, .int .i64 (n : Int), .int .i64 (f : Int), .slice A (C + 1) cap]).below hb2 (by simp)
      have k0 := hbk.cell 0; have k1 := hbk.cell 1; have k2 := hbk.cell 2; have k3 := hbk.cell 3
      simp at k0 k1 k2 k3
      have HB2 := hide (HB1.out.trans ((HAL.out.trans (hb2.mono HAL.out.size)).mono hsz1)); have HRD := hide ((HO1.out.rd.below HAL.out).below hb2); clear hb2 hbk
      go_wp2_with fail
      refine (c_within _ _ _ _).mono ?_; rintro e w' ⟨rfl, rfl⟩
      go_wp2_with fail
      refine (HLO.out _ _ HRD.out).mono ?_; rintro e w3 ⟨v3, rfl, ho3, hb3⟩
      have HB3 := hide (bthen HB2.out HB2.out.size hb3); have HO3 := hide (ho3.more HB2.out.size); clear ho3 hb3
      go_wp2
      go_ret2
      rw [HE.out]
      exact SlR.mk rfl HO3.out HB3.out
  · have HE := hide (ldfr1 (k := k) hp hc)
    have HPL := hide (fun w => open_err hp hc w (by omega))
    have ht : (c != 0) = true := by simpa using hc
    clear hp hc
    go_enter Tryz.func22, Tryz.ntmps22
    go_wp2_with fail
    refine (HPL.out _).mono ?_; rintro e w1 ⟨t, n, f, A, l, cap, rfl, hb1⟩
    have HB1 := hide hb1; have hsz1 := hb1.size; clear hb1
    go_wp2
    go_ret2
    exact SlR.mkE HE.out (HB1.out.alloc hsz1 _)
end Go.Proofs.YtopgjanpbfnlnaaGreat
