/- Contracts: a part of a store that is loaded; the other side. -/
import Derived.Test.YtpmflkoepnanoaaGreatJa
namespace Go.Proofs.YtpmflkoepnanoaaGreat
open Go.RowKit
/-- Samples lo to hi, out of the first i. -/
def midL (xs : List Int) (lo hi i : Nat) : List Int := (xs.take (min i hi)).drop lo
theorem midL_in {xs : List Int} {lo hi i : Nat} (h1 : lo ≤ i) (h2 : i < hi) (hl : i < xs.length) : midL xs lo hi (i + 1) = midL xs lo hi i ++ [xs[i]] := by
  unfold midL
  rw [Nat.min_eq_left (by omega), Nat.min_eq_left (by omega), take_snoc_of (List.getElem?_eq_getElem hl), List.drop_append_of_le_length (by rw [List.length_take]; omega)]
theorem midL_out {xs : List Int} {lo hi i : Nat} (h : ¬ (lo ≤ i ∧ i < hi)) : midL xs lo hi (i + 1) = midL xs lo hi i := by
  unfold midL
  by_cases h2 : i < hi
  · rw [List.drop_eq_nil_of_le (by rw [List.length_take]; omega), List.drop_eq_nil_of_le (by rw [List.length_take]; omega)]
  · rw [Nat.min_eq_right (by omega), Nat.min_eq_right (by omega)]
theorem midL_zero (xs : List Int) (lo hi : Nat) : midL xs lo hi 0 = [] := by unfold midL; simp
theorem midL_len (xs : List Int) (lo hi i : Nat) : (midL xs lo hi i).length ≤ xs.length := by unfold midL; rw [List.length_drop, List.length_take]; omega
theorem midL_end {xs : List Int} {lo hi : Nat} (h : hi ≤ xs.length) : midL xs lo hi xs.length = (xs.drop lo).take (hi - lo) := by
  unfold midL; rw [Nat.min_eq_right h, List.drop_take]
/-- The frame behind the last one that is wanted. -/
def endK (f fr n : Nat) : Nat := if n = 0 then fr / f else (fr + n - 1) / f + 1
theorem endK_iff {f fr n k : Nat} (hf : 16 ≤ f) (hk : fr / f ≤ k) : (0 < n ∧ k * f < fr + n) ↔ k < endK f fr n := by
  unfold endK
  by_cases h : n = 0
  · rw [if_pos h]; subst h; constructor
    · rintro ⟨h1, _⟩; omega
    · intro h1; omega
  · rw [if_neg h, Nat.lt_succ_iff, Nat.le_div_iff_mul_le (by omega)]
    constructor
    · rintro ⟨_, h2⟩; omega
    · intro h1; exact ⟨by omega, by omega⟩
theorem endK_ge (f fr n : Nat) : fr / f ≤ endK f fr n := by
  unfold endK
  split
  · exact Nat.le_refl _
  · exact Nat.le_succ_of_le (Nat.div_le_div_right (by omega))
theorem endK_le (f fr n : Nat) : endK f fr n * f ≤ fr + n + f := by
  unfold endK
  split
  · have := Nat.div_mul_le_self fr f; omega
  · have := Nat.div_mul_le_self (fr + n - 1) f
    rw [Nat.add_mul]; omega
/-- What frame k gives of samples fr to fr + n. -/
def partK (s : ByteArray) (fr n k : Nat) : List Int := midL (frK s k).1 (fr - k * numS s 4) (min (frK s k).1.length (fr + n - k * numS s 4)) (frK s k).1.length
def rngF (s : ByteArray) (fr n : Nat) : Nat → Nat → List Int → List Int × Int
  | 0, _, acc => (acc, 0)
  | c + 1, k, acc => if (frK s k).2 ≠ 0 then ([], (frK s k).2) else rngF s fr n c (k + 1) (acc ++ partK s fr n k)
def rangeF (s : ByteArray) (fr n : Nat) : List Int × Int := rngF s fr n (endK (numS s 4) fr n - fr / numS s 4) (fr / numS s 4) []
theorem rngF_no {s : ByteArray} {fr n c k : Nat} {acc xs : List Int} {e : Int} (h : frK s k = (xs, e)) (he : e ≠ 0) : rngF s fr n (c + 1) k acc = ([], e) := by simp only [rngF]; rw [h]; exact if_pos he
theorem rngF_go {s : ByteArray} {fr n c k : Nat} {acc : List Int} (h : (frK s k).2 = 0) : rngF s fr n (c + 1) k acc = rngF s fr n c (k + 1) (acc ++ partK s fr n k) := by simp only [rngF]; exact if_neg (by simpa using h)
theorem frK_bd (s : ByteArray) (k : Nat) : (frK s k).1.length ≤ 70000 := by
  unfold frK loadF
  split
  · simp
  · split
    · simp
    · exact decFrF_len
set_option maxHeartbeats 2000000 in
set_option maxRecDepth 100000 in
theorem c_l30Range {s : ByteArray} {t : List Nat} (h : Opn s t) (fr n : Nat) (hfr : fr + n ≤ numS s 6) (v : Value) (w : World) (hr : RdI w v (t.map fun (x : Nat) => (x : Int))) :
    Calls Tryz.prog 45 #[.string s, v, .int .i64 (numS s 6 : Nat), .int .i64 (numS s 4 : Nat), .int .i64 (fr : Int), .int .i64 (n : Int)] w (SlR (rangeF s fr n) w) := by
  have HR := hide hr; clear hr
  have hf1 := h.f1; have hf2 := h.f2; have hn4 := h.n4
  have hcnt := h.cnt
  have HLO := hide (fun (j : Nat) (hj : j < cntF s) (v : Value) w h' => sLoad h hj v w h')
  have HIF := hide (fun k hk => endK_iff (f := numS s 4) (fr := fr) (n := n) (k := k) hf1 hk)
  have HEC := hide (fun (k : Nat) (hk : k * numS s 4 < numS s 6) => show k < cntF s from (nch_lt hf1).2 hk)
  have hge := endK_ge (numS s 4) fr n
  have hle := endK_le (numS s 4) fr n
  have HRN := hide (show rngF s fr n (endK (numS s 4) fr n - fr / numS s 4) (fr / numS s 4) [] = rangeF s fr n from rfl)
  have HNO := hide (fun c k acc xs e => rngF_no (s := s) (fr := fr) (n := n) (c := c) (k := k) (acc := acc) (xs := xs) (e := e))
  have HGO := hide (fun c k acc => rngF_go (s := s) (fr := fr) (n := n) (c := c) (k := k) (acc := acc))
  have HPK := hide (fun k => show partK s fr n k = midL (frK s k).1 (fr - k * numS s 4) (min (frK s k).1.length (fr + n - k * numS s 4)) (frK s k).1.length from rfl)
  have HNK := hide (fun k => frK_no (s := s) (j := k))
  have HBD := hide (frK_bd s)
  have hk0 : fr / numS s 4 ≤ fr := Nat.div_le_self _ _
  have HOO := hide h; clear h
  generalize rangeF s fr n = R at *
  generalize hE : endK (numS s 4) fr n = E at *
  have HEE := hide hE; clear hE
  generalize numS s 6 = N at *
  generalize numS s 4 = f at *
  have HLE := hide hle; clear hle
  have e0 : (fr : Int) / (f : Int) = ((fr / f : Nat) : Int) := by simp
  generalize hk0' : fr / f = k0 at *
  have HK0 := hide hk0'; clear hk0'
  generalize cntF s = C at *
  go_enter Tryz.func45, Tryz.ntmps45
  go_wp2
  go_loopw [14, 15] (fun o kk wr => ∃ (k : Nat) (acc : List Int), k0 ≤ k ∧ k ≤ E ∧ kk = .int .i64 k ∧ acc.length ≤ 70000 * k ∧ rngF s fr n (E - k) k acc = R ∧ OwI 2 wr w.heap.size o acc ∧ Below w.heap.size w wr) (fun _ kk _ => E - (intOf kk).toNat)
  case atStart => exact ⟨k0, [], Nat.le_refl _, hge, rfl, by simp, HRN.out, new_i64 w, (Below.refl _ _).alloc (Nat.le_refl _) _⟩
  case round =>
    obtain ⟨k, acc, hkk, hkE, rfl, hal, hrun, ho, hb⟩ := hrel
    have hsz := hb.size
    have HRUN := hide hrun; have HO := hide ho; have HB := hide hb; clear hrun ho hb
    have hif := HIF.out k hkk
    obtain ⟨q, hq⟩ : ∃ q, k * f = q := ⟨_, rfl⟩
    have e1 : (k : Int) * (f : Int) = (q : Int) := by rw [← hq]; simp
    rw [hq] at hif
    have HQ := hide hq; clear hq
    by_cases hk : k < E
    · obtain ⟨hn0, hqn⟩ := hif.2 hk
      have hkC := HEC.out k (by rw [HQ.out]; omega)
      clear hif
      have t1 : (0 : Int) < (n : Int) := by omega
      have t2 : (q : Int) < (fr : Int) + (n : Int) := by omega
      go_wp2_with fail
      refine (HLO.out k hkC _ _ (HR.out.below HB.out)).mono ?_; rintro e w1 ⟨v1, rfl, ho1, hb1⟩
      have hbd := HBD.out k
      have HPKk := hide (HPK.out k); have HNKk := hide (HNK.out k)
      have HNOk := hide (fun acc xs e => HNO.out (E - (k + 1)) k acc xs e)
      have HGOk := hide (fun acc => HGO.out (E - (k + 1)) k acc)
      rw [show E - (k + 1) + 1 = E - k by omega] at HNOk HGOk
      generalize frK s k = K at *
      obtain ⟨xs, c⟩ := K
      simp only at ho1 hbd HPKk
      obtain ⟨A1, cap1, rfl, hl1, hc1, hx1⟩ := ho1.rd.open_
      have HX1 := hide hx1
      have HO1 : Sec (OwI 2 w1 wr.heap.size (.slice A1 xs.length cap1) xs) := hide ho1; have HB1 := hide hb1; have hsz1 := hb1.size
      have HOA := hide (own_all HO.out hb1)
      have HB2 := hide (bthen HB.out hsz hb1)
      clear ho1 hb1 hx1
      by_cases hc : c = 0
      · subst hc
        have HGG := hide (HGOk.out acc rfl)
        obtain ⟨lo, hlo⟩ : ∃ lo, fr - k * f = lo := ⟨_, rfl⟩
        obtain ⟨hi, hhi⟩ : ∃ hi, min xs.length (fr + n - k * f) = hi := ⟨_, rfl⟩
        have HPP := hide (show partK s fr n k = midL xs lo hi xs.length by rw [HPKk.out, hlo, hhi])
        rw [HQ.out] at hlo hhi
        have hlo2 : ∀ i, i < xs.length → ((lo ≤ i ∧ i < hi) ↔ inB ((q : Int) + (i : Int)) (fr : Int) ((fr : Int) + (n : Int) - 1) = true) := by
          intro i hi2
          rw [inB_true]
          omega
        have HLO2 := hide hlo2
        clear hlo2 hlo hhi
        go_wp2_with fail
        go_loopw [14, 18] (fun o ii w2 => ∃ (i : Nat), i ≤ xs.length ∧ ii = .int .i64 i ∧ OwI 2 w2 w.heap.size o (acc ++ midL xs lo hi i) ∧ RdI w2 (.slice A1 xs.length cap1) xs ∧ (∀ b, o.ownBlock = some b → b < wr.heap.size ∨ w1.heap.size ≤ b) ∧ w1.heap.size ≤ w2.heap.size ∧ Below w.heap.size w w2) (fun _ ii _ => xs.length - (intOf ii).toNat)
        case atStart => exact ⟨0, Nat.zero_le _, rfl, by rw [midL_zero, List.append_nil]; exact HOA.out, HO1.out.rd, fun b hb => .inl (HO.out.lt b hb).2, Nat.le_refl _, HB2.out⟩
        case round =>
          obtain ⟨i, hi0, rfl, ho, hr2, hfar, hs12, hb⟩ := hrel
          have HO3 := hide ho; have HR2 := hide hr2; have HFAR := hide hfar; have HB3 := hide hb; have hsz3 := hb.size; clear ho hfar hb
          obtain ⟨A2, cap2, he2, _, _, hx2⟩ := hr2.open_
          injection he2 with he2 _ he3
          subst he2 he3
          have HX2 := hide hx2; clear hx2 hr2
          by_cases hi1 : i < xs.length
          · obtain ⟨b, off, rfl, hbw, hcell⟩ := HX2.out i xs[i] (List.getElem?_eq_getElem hi1)
            have hll := HLO2.out i hi1
            by_cases hin : lo ≤ i ∧ i < hi
            · have hti : inB ((q : Int) + (i : Int)) (fr : Int) ((fr : Int) + (n : Int) - 1) = true := hll.1 hin
              have HM := hide (midL_in hin.1 hin.2 hi1)
              have hml := midL_len xs lo hi i
              have hal2 : (acc ++ midL xs lo hi i).length + 1 ≤ 17592186044416 := by rw [List.length_append]; omega
              clear hll hin
              go_wp2_with (first | (go_at_call 37; refine (c_l00In _ _ _ _).mono ?_; rintro e w' ⟨rfl, rfl⟩) | (at_builtin; refine app1_i64 rfl _ _ rfl rfl HO3.out rfl hal2 hsz3 ?_; intro v5 w5 ho5 hg5 hv5; have hb5 := below_own HB3.out HO3.out hg5 (Nat.le_refl _) hsz3; have hr5 := HR2.out.grown hg5 (fun c hc e => by have h1 := HO1.out.lt c hc; have h2 := HFAR.out c e.symm; omega); have HO5 := hide ho5; have HB5 := hide hb5; have HR5 := hide hr5; have HV5 := hide hv5; have hs5 := hg5.size; clear ho5 hb5 hv5 hr5 hg5))
              go_roundw
              case rel => exact ⟨i + 1, by omega, by go_num, by rw [HM.out, ← List.append_assoc]; exact HO5.out, HR5.out, fun b hb => by rcases HV5.out b hb with h | h; exact HFAR.out b h; exact .inr (by omega), by omega, HB5.out⟩
              case measure => first | (simp [intOf]; done) | (simp [intOf]; omega)
            · have hti : inB ((q : Int) + (i : Int)) (fr : Int) ((fr : Int) + (n : Int) - 1) = false := by
                cases hh : inB ((q : Int) + (i : Int)) (fr : Int) ((fr : Int) + (n : Int) - 1)
                · rfl
                · exact absurd (hll.2 hh) hin
              have HM := hide (midL_out (xs := xs) hin)
              clear hll hin
              go_wp2_with (go_at_call 37; refine (c_l00In _ _ _ _).mono ?_; rintro e w' ⟨rfl, rfl⟩)
              go_roundw
              case rel => exact ⟨i + 1, by omega, by go_num, by rw [HM.out]; exact HO3.out, HR2.out, HFAR.out, hs12, HB3.out⟩
              case measure => first | (simp [intOf]; done) | (simp [intOf]; omega)
          · obtain rfl : i = xs.length := by omega
            go_wp2
            go_roundw
            case rel => exact ⟨k + 1, acc ++ midL xs lo hi xs.length, by omega, by omega, by go_num, by have := midL_len xs lo hi xs.length; rw [List.length_append]; omega, by rw [← HPP.out, ← HRUN.out, HGG.out], HO3.out, HB3.out⟩
            case measure => first | (simp [intOf]; done) | (simp [intOf]; omega)
      · have HE := hide (HNOk.out acc xs c rfl hc)
        have ht : (c != 0) = true := by simpa using hc
        clear hc
        go_wp2
        go_ret2
        exact SlR.mkE (by rw [← HRUN.out]; exact HE.out) HB2.out
    · have hkeq : k = E := by omega
      have HKE := hide hkeq
      have hqb : q ≤ 5000 := by have := HLE.out; rw [← hkeq, HQ.out] at this; omega
      by_cases hn0 : n = 0
      · clear hif
        subst hn0
        go_wp2
        go_ret2
        exact SlR.mk (by rw [← HRUN.out, HKE.out, Nat.sub_self]; rfl) HO.out HB.out
      · have t1 : (0 : Int) < (n : Int) := by omega
        have t2 : ¬ (q : Int) < (fr : Int) + (n : Int) := by
          intro h1
          have := hif.1 ⟨by omega, by omega⟩
          omega
        clear hif hkeq
        go_wp2
        go_ret2
        exact SlR.mk (by rw [← HRUN.out, HKE.out, Nat.sub_self]; rfl) HO.out HB.out
end Go.Proofs.YtpmflkoepnanoaaGreat
