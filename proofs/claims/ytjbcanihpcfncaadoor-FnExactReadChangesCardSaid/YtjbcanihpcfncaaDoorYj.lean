/- Contracts: changes read from their text, by the reference. -/
import Derived.Test.YtjbcanihpcfncaaDoorYi
namespace Go.Proofs.YtjbcanihpcfncaaDoor
open Go.RowKit
theorem digN_stop (m : Nat) : ∀ l : List UInt8, digN m l = m ∨ digN m l = l.length ∨ ∃ b, l[digN m l]? = some b ∧ digB b = false := by
  induction m with
  | zero => intro l; left; simp [digN]
  | succ m ih =>
    intro l
    cases l with
    | nil => right; left; simp [digN]
    | cons b t =>
      simp only [digN]
      split
      · rcases ih t with h | h | ⟨c, h1, h2⟩
        · left; omega
        · right; left; simp; omega
        · right; right; exact ⟨c, by simpa using h1, h2⟩
      · next h => right; right; exact ⟨b, by simp, by simpa using h⟩
theorem rcS_no {s : ByteArray} {k : Nat} {x : ByteArray} (hk : (linesF s)[k]? = some x) (h : okS x.data.toList = false) : rcS s = none := by
  unfold rcS
  rw [if_neg]
  rintro ⟨_, _, h1, _⟩
  have := List.all_eq_true.1 h1 x (List.mem_of_getElem? hk)
  rw [h] at this; cases this
theorem cS_t_bd (l : List UInt8) : (cS l).t.size ≤ l.length := by
  unfold cS
  rw [size_mkS, List.length_drop]; omega
set_option maxHeartbeats 8000000 in
set_option maxRecDepth 20000 in
theorem c_sRead (s : ByteArray) (w : World) (hs : s.size ≤ 1048576) :
    Calls Tryd.prog 4 #[.string s] w fun e w' => ∃ v, e = .returned (.tuple #[v, .bool (rcS s).isSome]) ∧ OwC 35 w' w.heap.size v ((rcS s).getD []) ∧ Below w.heap.size w w' := by
  have hlb := line_bd s
  have HNO := hide (fun (k : Nat) x (h1 : (linesF s)[k]? = some x) h2 => rcS_no h1 h2)
  have hval : rcS s = if lastF s = [] ∧ (linesF s).length ≤ 400 ∧ (linesF s).all (fun l => okS l.data.toList) = true ∧ chgS ((linesF s).map fun l => cS l.data.toList) = true then some ((linesF s).map fun l => cS l.data.toList) else none := rfl
  have HSP := hide (c_l32Lines s · hs)
  have hnl : (linesF s).length ≤ 1048576 := by rw [length_linesF]; exact Nat.le_trans (count_le s) hs
  have HLB := hide hlb
  clear hlb
  generalize linesF s = ls at *
  generalize hR : rcS s = R at *
  have HRR := hide hR; clear hR
  by_cases hbad : lastF s = [] ∧ ls.length ≤ 400
  · obtain ⟨hla, hl4⟩ := hbad
    have HVAL := hide hval; clear hval
    have hd : decide (lastF s = []) = true := decide_eq_true hla
    rw [hd] at HSP
    have HLA := hide hla; clear hd hla
    go_enter Tryd.func4, Tryd.ntmps4
    go_wp2_with fail
    refine (HSP.out _).mono ?_; rintro e w1 ⟨v, rfl, ho, hb⟩
    have HB1 := hide hb
    have hs1 : w.heap.size ≤ w1.heap.size := hb.size
    obtain ⟨A, cap, rfl, hl, hcc, hx⟩ := ho.rd.openS
    have HX := hide hx; clear hx ho hb
    go_wp2
    go_loopw [6, 7] (fun o iv wr => ∃ k : Nat, k ≤ ls.length ∧ iv = .int .i64 (k : Int) ∧ (ls.take k).all (fun l => okS l.data.toList) = true ∧ OwC 35 wr w1.heap.size o ((ls.take k).map fun l => cS l.data.toList) ∧ Below w.heap.size w wr ∧ Below w1.heap.size w1 wr) (fun _ iv _ => ls.length - (intOf iv).toNat)
    case atStart => exact ⟨0, Nat.zero_le _, rfl, rfl, new_chg w1, HB1.out.alloc hs1 _, (Below.refl _ _).alloc (Nat.le_refl _) _⟩
    case round =>
      obtain ⟨k, hk, rfl, hok, ho, hb, hbb⟩ := hrel
      have HOK := hide hok; have HO := hide ho; have HB := hide hb; have HBB := hide hbb
      have hsz := hbb.size
      clear hok ho hb hbb
      by_cases hlt : k < ls.length
      · have hgc := List.getElem?_eq_getElem hlt
        obtain ⟨b, off, rfl, hbw, e0⟩ := HX.out k _ hgc
        have d0 := (HBB.out.cell hbw).trans e0
        have hzz : (ls[k]).size ≤ 1048576 := Nat.le_trans (HLB.out _ (List.getElem_mem hlt)) hs
        generalize hg : ls[k] = x at *
        have HG := hide hgc; clear hg hgc e0
        obtain ⟨l, hx2⟩ : ∃ l, x.data.toList = l := ⟨_, rfl⟩
        have hxl : l.length = x.size := by rw [← hx2]; exact Array.length_toList
        have hbs : ∀ j b, l[j]? = some b → bA x j = b.toNat := fun j b hj => by unfold bA; rw [hx2, List.getD_eq_getElem?_getD, hj]; rfl
        have HX2 := hide hx2; have HBS := hide hbs; clear hx2 hbs
        have hdl : digN 5 (l.drop 1) ≤ 5 ∧ digN 5 (l.drop 1) ≤ l.length - 1 := by have := digN_le 5 (l.drop 1); rwa [List.length_drop] at this
        have HDG : Sec (∀ j b, j < digN 5 (l.drop 1) → l[1 + j]? = some b → 48 ≤ b.toNat ∧ b.toNat ≤ 57) := hide (fun j b hj hb => by
          have : b ∈ (l.drop 1).take (digN 5 (l.drop 1)) := by
            refine List.mem_of_getElem? (i := j) ?_
            rw [List.getElem?_take, if_pos hj, List.getElem?_drop]; exact hb
          have := digN_dig 5 _ b this
          simpa [digB] using this)
        have HST := hide (digN_stop 5 (l.drop 1))
        have hat : atS l = 1 + digN 5 (l.drop 1) := rfl
        generalize hD : digN 5 (l.drop 1) = D at *
        have HAT := hide hat; have HDD := hide hD; clear hat hD
        go_wp2
        go_loop [9] (fun av => ∃ a : Nat, 1 ≤ a ∧ a ≤ 1 + D ∧ av = .int .i64 (a : Int)) (fun av => 1 + D - (intOf av).toNat)
        case atStart => exact ⟨1, by omega, by omega, rfl⟩
        case round =>
          obtain ⟨a, ha1, haD, rfl⟩ := hrel
          by_cases hlt2 : a < 1 + D
          · have hax : a < x.size := by omega
            have hgb := List.getElem?_eq_getElem (show a < l.length by omega)
            have hbk := HBS.out a _ hgb
            have hdg := HDG.out (a - 1) _ (by omega) (by rw [show 1 + (a - 1) = a by omega]; exact hgb)
            have hge := bA_get hax
            have hdd : decide (48 ≤ (x[a]'hax).toNat ∧ (x[a]'hax).toNat ≤ 57) = true := by rw [hge, hbk]; simpa using hdg
            have h6 : a < 6 := by omega
            clear hgb hbk hdg hge
            go_wp2_with (go_at_call 10; refine (c_l01Digit _ _).mono ?_; rintro e w' ⟨rfl, rfl⟩; rw [hdd])
            go_round
            case rel => exact ⟨a + 1, by omega, by omega, by go_num⟩
            case measure => simp [intOf]; omega
          · obtain rfl : a = 1 + D := by omega
            have hstop : x.size ≤ 1 + D ∨ (1 + D < x.size ∧ ¬ 1 + D < 6) ∨ (1 + D < x.size ∧ 1 + D < 6 ∧ ∃ h : 1 + D < x.size, decide (48 ≤ (x[1 + D]'h).toNat ∧ (x[1 + D]'h).toNat ≤ 57) = false) := by
              by_cases h1 : x.size ≤ 1 + D
              · exact .inl h1
              · right
                rcases HST.out with h | h | ⟨b, h2, h3⟩
                · exact .inl ⟨by omega, by omega⟩
                · exfalso; rw [List.length_drop] at h; omega
                · by_cases h5 : D = 5
                  · exact .inl ⟨by omega, by omega⟩
                  · right
                    refine ⟨by omega, by omega, by omega, ?_⟩
                    rw [List.getElem?_drop] at h2
                    rw [bA_get, HBS.out _ _ h2]
                    simpa [digB] using h3
            rcases hstop with hA | hBC
            · have hno : okS l = false := by unfold okS; rw [HAT.out]; simp; intro h; omega
              have HRN := hide (HNO.out k x HG.out (by rw [HX2.out]; exact hno))
              clear hno
              have hnx : ¬ 1 + D < x.size := by omega
              go_wp2
              go_ret2
              have hB := HB.out
              exact ⟨_, by rw [HRN.out]; rfl, by rw [HRN.out]; exact OwG.nil_ chgV_len _ _ _, (by repeat (first | with_reducible exact Below.refl _ _ | with_reducible assumption | with_reducible refine Below.setCell ?_ (by first | omega | (simp; done) | (simp; omega)) _ | with_reducible refine Below.alloc ?_ (by first | omega | (simp; done) | (simp; omega)) _ | with_reducible refine Below.drew ?_ | with_reducible refine below_drewN ?_ _ | exact Below.refl _ _ | assumption | refine Below.drew ?_ | refine below_drewN ?_ _ | refine Below.alloc ?_ (by first | omega | (simp; done) | (simp; omega)) _ | refine Below.setCell ?_ (by first | omega | (simp; done) | (simp; omega)) _))⟩
            · have hlx : 1 + D < x.size := by rcases hBC with h | h <;> exact h.1
              have hats : atS l < l.length := by rw [HAT.out]; omega
              have hpart : (x.extract 1 (1 + D)).data.toList = (l.drop 1).take D := by rw [mkS_sub, data_mkS, HX2.out, Nat.add_sub_cancel_left]
              have hpd : ∀ b ∈ (l.drop 1).take D, digB b = true := by rw [← HDD.out]; exact digN_dig 5 _
              have hpl : ((l.drop 1).take D).length ≤ 5 := by rw [List.length_take]; omega
              have HN := hide (fun W => c_sNum (x.extract 1 (1 + D)) ((l.drop 1).take D) W hpart hpd (by omega))
              have hcp : (cS l).p = (numF ((l.drop 1).take D)).getD 0 := by show (numF ((l.drop 1).take (atS l - 1))).getD 0 = _; rw [HAT.out, Nat.add_sub_cancel_left]
              have hfs : (numF ((l.drop 1).take (atS l - 1))).isSome = (numF ((l.drop 1).take D)).isSome := by rw [HAT.out, Nat.add_sub_cancel_left]
              have hct : (cS l).t = x.extract (1 + D + 1) x.size := by
                show mkS (l.drop (atS l + 1)) = _
                rw [mkS_sub, HX2.out, HAT.out, List.take_of_length_le (by rw [List.length_drop]; omega)]
              have hrs : (x.extract (1 + D + 1) x.size).size ≤ 1048576 := by rw [ByteArray.size_extract]; omega
              have hnb : ∀ n, numF ((l.drop 1).take D) = some n → 0 ≤ n ∧ n ≤ 99999 := fun n hn => by
                have h1 := hpd
                generalize (l.drop 1).take D = q at *
                by_cases hq0 : q.length < 1 ∨ 18 < q.length
                · rw [numF_short h1 hq0] at hn; cases hn
                · rw [numF_dig h1 (by omega) (by omega)] at hn
                  split at hn
                  · have e := Option.some.inj hn
                    have h2 := numV_lt q 0 h1
                    have h3 : 10 ^ q.length ≤ 10 ^ 5 := Nat.pow_le_pow_right (by omega) hpl
                    omega
                  · cases hn
              have hcmp : ((mkS (txtC (cS l))).toList == (x ++ (⟨#[10]⟩ : ByteArray)).toList) = decide (txtC (cS l) = l ++ [10]) := by
                rw [toList_eq, toList_eq, data_mkS]
                have : (x ++ (⟨#[10]⟩ : ByteArray)).data.toList = l ++ [10] := by rw [← HX2.out]; simp
                rw [this, Bool.eq_iff_iff]; simp
              have h10 : (⟨#[10]⟩ : ByteArray).size = 1 := rfl
              have hxs : (x ++ (⟨#[10]⟩ : ByteArray)).size ≤ 1048577 := by rw [ByteArray.size_append, h10]; omega
              have HCP0 := hide hcp; have HFS0 := hide hfs; have HCT := hide hct; have HNB := hide hnb; have HCMP := hide hcmp
              clear hcp hfs hct hnb hcmp hpart hpd hpl
              have hge0 := bA_get (s := x) (n := 0) (by omega)
              have hh0 : decide (l.head? = some 43) = ((bA x 0 : Int) == 43) := by
                have hl0 := List.getElem?_eq_getElem (show 0 < l.length by omega)
                rw [HBS.out 0 _ hl0]

                rw [List.head?_eq_getElem?, hl0, Bool.eq_iff_iff]
                simp
                constructor
                · intro h; rw [h]; rfl
                · intro h; exact UInt8.toNat_inj.1 (by have : (43 : UInt8).toNat = 43 := rfl; omega)
              rw [← hge0] at hh0
              clear hge0
              generalize hF : numF ((l.drop 1).take D) = F at *
              have HF := hide hF; clear hF
              cases hh1 : decide (l.head? = some 43)
              · rw [hh1] at hh0
                have hh2 := hh0.symm
                have HH0 := hide hh1
                clear hh0 hh1
                rcases hBC with ⟨_, h5⟩ | ⟨_, h5, hh, hdd⟩
                all_goals
                  cases F with
                  | none =>
                    have hno : okS l = false := by unfold okS; rw [HFS0.out]; simp
                    have HRN := hide (HNO.out k x HG.out (by rw [HX2.out]; exact hno))
                    clear hno
                    go_wp2_with (first | (go_at_call 10; refine (c_l01Digit _ _).mono ?_; rintro e w' ⟨rfl, rfl⟩; rw [hdd]) | (go_at_call 11; refine (HN.out _).mono ?_; rintro e w3 ⟨rfl, hb3⟩; have HB3 := hide (bthen HB.out HB.out.size hb3); clear hb3))
                    go_ret2
                    have hB := HB3.out
                    have hsB := hB.size
                    exact ⟨_, by rw [HRN.out]; rfl, by rw [HRN.out]; exact OwG.nil_ chgV_len _ _ _, (by repeat (first | with_reducible exact Below.refl _ _ | with_reducible assumption | with_reducible refine Below.setCell ?_ (by first | omega | (simp; done) | (simp; omega)) _ | with_reducible refine Below.alloc ?_ (by first | omega | (simp; done) | (simp; omega)) _ | with_reducible refine Below.drew ?_ | with_reducible refine below_drewN ?_ _ | exact Below.refl _ _ | assumption | refine Below.drew ?_ | refine below_drewN ?_ _ | refine Below.alloc ?_ (by first | omega | (simp; done) | (simp; omega)) _ | refine Below.setCell ?_ (by first | omega | (simp; done) | (simp; omega)) _))⟩
                  | some n =>
                    obtain ⟨hn0, hn1⟩ := HNB.out n rfl
                    have HCP := hide (show (cS l).p = n from HCP0.out)
                    have HFS := hide (show (numF ((l.drop 1).take (atS l - 1))).isSome = true from HFS0.out)
                    go_wp2_with (go_at_call 10; refine (c_l01Digit _ _).mono ?_; rintro e w' ⟨rfl, rfl⟩; rw [hdd])
                    refine (HN.out _).mono ?_; rintro e w3 ⟨rfl, hb3⟩
                    have HB3 := hide (bthen HB.out HB.out.size hb3); have HBB3 := hide (bthen HBB.out hsz hb3); have HO3 := hide (HO.out.all hb3); clear hb3
                    have HKK := hide (show (cS l).k = 1 by unfold cS; rw [if_neg (of_decide_eq_false HH0.out)])
                    have hB3 := HB3.out
                    have hs3 := hB3.size
                    have hbw3 : Below w.heap.size w (w3.alloc (.cells #[.int .i64 1, .int .i64 n, .string (x.extract (1 + D + 1) x.size)] 35)) := (by repeat (first | with_reducible exact Below.refl _ _ | with_reducible assumption | with_reducible refine Below.setCell ?_ (by first | omega | (simp; done) | (simp; omega)) _ | with_reducible refine Below.alloc ?_ (by first | omega | (simp; done) | (simp; omega)) _ | with_reducible refine Below.drew ?_ | with_reducible refine below_drewN ?_ _ | exact Below.refl _ _ | assumption | refine Below.drew ?_ | refine below_drewN ?_ _ | refine Below.alloc ?_ (by first | omega | (simp; done) | (simp; omega)) _ | refine Below.setCell ?_ (by first | omega | (simp; done) | (simp; omega)) _))
                    have hbw4 : Below w3.heap.size w3 (w3.alloc (.cells #[.int .i64 1, .int .i64 n, .string (x.extract (1 + D + 1) x.size)] 35)) := (by repeat (first | with_reducible exact Below.refl _ _ | with_reducible assumption | with_reducible refine Below.setCell ?_ (by first | omega | (simp; done) | (simp; omega)) _ | with_reducible refine Below.alloc ?_ (by first | omega | (simp; done) | (simp; omega)) _ | with_reducible refine Below.drew ?_ | with_reducible refine below_drewN ?_ _ | exact Below.refl _ _ | assumption | refine Below.drew ?_ | refine below_drewN ?_ _ | refine Below.alloc ?_ (by first | omega | (simp; done) | (simp; omega)) _ | refine Below.setCell ?_ (by first | omega | (simp; done) | (simp; omega)) _))
                    have K1 := (Bk.born w3 35 #[.int .i64 1, .int .i64 n, .string (x.extract (1 + D + 1) x.size)])
                    have e0 : ((w3.alloc (.cells #[.int .i64 1, .int .i64 n, .string (x.extract (1 + D + 1) x.size)] 35))).cell? ⟨w3.heap.size, 0, none⟩ = some (.int .i64 (cS l).k) := by rw [K1.cell, HKK.out]; rfl
                    have e1 : ((w3.alloc (.cells #[.int .i64 1, .int .i64 n, .string (x.extract (1 + D + 1) x.size)] 35))).cell? ⟨w3.heap.size, 0 + 1, none⟩ = some (.int .i64 (cS l).p) := by rw [K1.cell, HCP.out]; rfl
                    have e2 : ((w3.alloc (.cells #[.int .i64 1, .int .i64 n, .string (x.extract (1 + D + 1) x.size)] 35))).cell? ⟨w3.heap.size, 0 + 2, none⟩ = some (.string (cS l).t) := by rw [K1.cell, HCT.out]; rfl
                    have HCH := hide (c_l32Change w3.heap.size 0 (cS l) _ e0 e1 e2 (by simp [World.setCell]) (by rw [HKK.out]; omega) (by rw [HCP.out]; exact hn0) (by rw [HCP.out]; omega) (by rw [HCT.out]; exact hrs))
                    have HW3 := hide hbw3; have HW4 := hide hbw4; have HK1 := hide K1
                    clear e0 e1 e2 hbw3 hbw4 K1 hB3
                    cases hq : decide (txtC (cS l) = l ++ [10])
                    · have hno : okS l = false := by unfold okS; rw [hq]; simp
                      have HRN := hide (HNO.out k x HG.out (by rw [HX2.out]; exact hno))
                      have HNE := hide ((HCMP.out).trans hq)
                      clear hq hno
                      generalize hTX : mkS (txtC (cS l)) = TX at *
                      have hne := HNE.out
                      go_wp2_with (go_at_call 12; refine HCH.out.mono ?_; rintro e w4 ⟨rfl, hb4⟩; have HB4 := hide (bthen HW3.out HW3.out.size hb4); clear hb4)
                      go_ret2
                      exact ⟨_, by rw [HRN.out]; rfl, by rw [HRN.out]; exact OwG.nil_ chgV_len _ _ _, HB4.out⟩
                    · have hyes : okS l = true := by unfold okS; rw [hq, HFS.out]; simp; exact hats
                      have HNE := hide ((HCMP.out).trans hq)
                      have HNEW : Sec ((ls.take (k + 1)).map (fun l => cS l.data.toList) = (ls.take k).map (fun l => cS l.data.toList) ++ [⟨1, n, x.extract (1 + D + 1) x.size⟩]) := hide (by
                        rw [take_snoc_of HG.out]
                        have : cS l = ⟨1, n, x.extract (1 + D + 1) x.size⟩ := by
                          rw [← HKK.out, ← HCP.out, ← HCT.out]
                        simp [HX2.out, this])
                      have HOK2 : Sec ((ls.take (k + 1)).all (fun l => okS l.data.toList) = true) := hide (by rw [take_snoc_of HG.out, List.all_append, HOK.out]; simp [HX2.out, hyes])
                      clear hq hyes
                      generalize hTX : mkS (txtC (cS l)) = TX at *
                      have hl2 : ((ls.take k).map fun l => cS l.data.toList).length + 1 ≤ 4398046511104 := by rw [List.length_map, List.length_take]; omega
                      generalize hM : (ls.take k).map (fun l => cS l.data.toList) = M at *
                      have HM := hide hM; clear hM
                      have hne := HNE.out
                      go_wp2_with (first | (go_at_call 12; refine HCH.out.mono ?_; rintro e w4 ⟨rfl, hb4⟩; have K4 := HK1.out.below hb4 (by simp [World.setCell]); have k4 := K4.cell; have f4 := K4.free; have HO4 := hide ((HO3.out.all HW4.out).all hb4); have HB4 := hide (bthen HW3.out HW3.out.size hb4); have HBB4 := hide (bthen HBB3.out HBB3.out.size (bthen HW4.out HW4.out.size hb4)); clear hb4 K4) | (at_builtin; refine app1_chg (c := ⟨1, n, x.extract (1 + D + 1) x.size⟩) rfl _ _ rfl rfl HO4.out (by first | rfl | (simp; done)) hl2 (by have := HBB4.out.size; omega) ?_; intro v5 w5 ho5 hg5 hv5; have HB5 := hide (below_own HB4.out HO4.out.2 hg5 hs1 (by have := HB4.out.size; omega)); have HBB5 := hide (below_own HBB4.out HO4.out.2 hg5 (Nat.le_refl _) HBB4.out.size); have HO5 := hide ho5; clear hv5 ho5))
                      go_roundw
                      case rel => exact ⟨k + 1, by omega, by go_num, HOK2.out, by rw [HNEW.out]; exact HO5.out, HB5.out, HBB5.out⟩
                      case measure => simp [intOf]; omega
              · rw [hh1] at hh0
                have hh2 := hh0.symm
                have HH0 := hide hh1
                clear hh0 hh1
                rcases hBC with ⟨_, h5⟩ | ⟨_, h5, hh, hdd⟩
                all_goals
                  cases F with
                  | none =>
                    have hno : okS l = false := by unfold okS; rw [HFS0.out]; simp
                    have HRN := hide (HNO.out k x HG.out (by rw [HX2.out]; exact hno))
                    clear hno
                    go_wp2_with (first | (go_at_call 10; refine (c_l01Digit _ _).mono ?_; rintro e w' ⟨rfl, rfl⟩; rw [hdd]) | (go_at_call 11; refine (HN.out _).mono ?_; rintro e w3 ⟨rfl, hb3⟩; have HB3 := hide (bthen HB.out HB.out.size hb3); clear hb3))
                    go_ret2
                    have hB := HB3.out
                    have hsB := hB.size
                    exact ⟨_, by rw [HRN.out]; rfl, by rw [HRN.out]; exact OwG.nil_ chgV_len _ _ _, (by repeat (first | with_reducible exact Below.refl _ _ | with_reducible assumption | with_reducible refine Below.setCell ?_ (by first | omega | (simp; done) | (simp; omega)) _ | with_reducible refine Below.alloc ?_ (by first | omega | (simp; done) | (simp; omega)) _ | with_reducible refine Below.drew ?_ | with_reducible refine below_drewN ?_ _ | exact Below.refl _ _ | assumption | refine Below.drew ?_ | refine below_drewN ?_ _ | refine Below.alloc ?_ (by first | omega | (simp; done) | (simp; omega)) _ | refine Below.setCell ?_ (by first | omega | (simp; done) | (simp; omega)) _))⟩
                  | some n =>
                    obtain ⟨hn0, hn1⟩ := HNB.out n rfl
                    have HCP := hide (show (cS l).p = n from HCP0.out)
                    have HFS := hide (show (numF ((l.drop 1).take (atS l - 1))).isSome = true from HFS0.out)
                    go_wp2_with (go_at_call 10; refine (c_l01Digit _ _).mono ?_; rintro e w' ⟨rfl, rfl⟩; rw [hdd])
                    refine (HN.out _).mono ?_; rintro e w3 ⟨rfl, hb3⟩
                    have HB3 := hide (bthen HB.out HB.out.size hb3); have HBB3 := hide (bthen HBB.out hsz hb3); have HO3 := hide (HO.out.all hb3); clear hb3
                    have HKK := hide (show (cS l).k = 2 by unfold cS; rw [if_pos (of_decide_eq_true HH0.out)])
                    have hB3 := HB3.out
                    have hs3 := hB3.size
                    have hbw3 : Below w.heap.size w (w3.alloc (.cells #[.int .i64 2, .int .i64 n, .string (x.extract (1 + D + 1) x.size)] 35)) := (by repeat (first | with_reducible exact Below.refl _ _ | with_reducible assumption | with_reducible refine Below.setCell ?_ (by first | omega | (simp; done) | (simp; omega)) _ | with_reducible refine Below.alloc ?_ (by first | omega | (simp; done) | (simp; omega)) _ | with_reducible refine Below.drew ?_ | with_reducible refine below_drewN ?_ _ | exact Below.refl _ _ | assumption | refine Below.drew ?_ | refine below_drewN ?_ _ | refine Below.alloc ?_ (by first | omega | (simp; done) | (simp; omega)) _ | refine Below.setCell ?_ (by first | omega | (simp; done) | (simp; omega)) _))
                    have hbw4 : Below w3.heap.size w3 (w3.alloc (.cells #[.int .i64 2, .int .i64 n, .string (x.extract (1 + D + 1) x.size)] 35)) := (by repeat (first | with_reducible exact Below.refl _ _ | with_reducible assumption | with_reducible refine Below.setCell ?_ (by first | omega | (simp; done) | (simp; omega)) _ | with_reducible refine Below.alloc ?_ (by first | omega | (simp; done) | (simp; omega)) _ | with_reducible refine Below.drew ?_ | with_reducible refine below_drewN ?_ _ | exact Below.refl _ _ | assumption | refine Below.drew ?_ | refine below_drewN ?_ _ | refine Below.alloc ?_ (by first | omega | (simp; done) | (simp; omega)) _ | refine Below.setCell ?_ (by first | omega | (simp; done) | (simp; omega)) _))
                    have K1 := (Bk.born w3 35 #[.int .i64 2, .int .i64 n, .string (x.extract (1 + D + 1) x.size)])
                    have e0 : ((w3.alloc (.cells #[.int .i64 2, .int .i64 n, .string (x.extract (1 + D + 1) x.size)] 35))).cell? ⟨w3.heap.size, 0, none⟩ = some (.int .i64 (cS l).k) := by rw [K1.cell, HKK.out]; rfl
                    have e1 : ((w3.alloc (.cells #[.int .i64 2, .int .i64 n, .string (x.extract (1 + D + 1) x.size)] 35))).cell? ⟨w3.heap.size, 0 + 1, none⟩ = some (.int .i64 (cS l).p) := by rw [K1.cell, HCP.out]; rfl
                    have e2 : ((w3.alloc (.cells #[.int .i64 2, .int .i64 n, .string (x.extract (1 + D + 1) x.size)] 35))).cell? ⟨w3.heap.size, 0 + 2, none⟩ = some (.string (cS l).t) := by rw [K1.cell, HCT.out]; rfl
                    have HCH := hide (c_l32Change w3.heap.size 0 (cS l) _ e0 e1 e2 (by simp [World.setCell]) (by rw [HKK.out]; omega) (by rw [HCP.out]; exact hn0) (by rw [HCP.out]; omega) (by rw [HCT.out]; exact hrs))
                    have HW3 := hide hbw3; have HW4 := hide hbw4; have HK1 := hide K1
                    clear e0 e1 e2 hbw3 hbw4 K1 hB3
                    cases hq : decide (txtC (cS l) = l ++ [10])
                    · have hno : okS l = false := by unfold okS; rw [hq]; simp
                      have HRN := hide (HNO.out k x HG.out (by rw [HX2.out]; exact hno))
                      have HNE := hide ((HCMP.out).trans hq)
                      clear hq hno
                      generalize hTX : mkS (txtC (cS l)) = TX at *
                      have hne := HNE.out
                      go_wp2_with (go_at_call 12; refine HCH.out.mono ?_; rintro e w4 ⟨rfl, hb4⟩; have HB4 := hide (bthen HW3.out HW3.out.size hb4); clear hb4)
                      go_ret2
                      exact ⟨_, by rw [HRN.out]; rfl, by rw [HRN.out]; exact OwG.nil_ chgV_len _ _ _, HB4.out⟩
                    · have hyes : okS l = true := by unfold okS; rw [hq, HFS.out]; simp; exact hats
                      have HNE := hide ((HCMP.out).trans hq)
                      have HNEW : Sec ((ls.take (k + 1)).map (fun l => cS l.data.toList) = (ls.take k).map (fun l => cS l.data.toList) ++ [⟨2, n, x.extract (1 + D + 1) x.size⟩]) := hide (by
                        rw [take_snoc_of HG.out]
                        have : cS l = ⟨2, n, x.extract (1 + D + 1) x.size⟩ := by
                          rw [← HKK.out, ← HCP.out, ← HCT.out]
                        simp [HX2.out, this])
                      have HOK2 : Sec ((ls.take (k + 1)).all (fun l => okS l.data.toList) = true) := hide (by rw [take_snoc_of HG.out, List.all_append, HOK.out]; simp [HX2.out, hyes])
                      clear hq hyes
                      generalize hTX : mkS (txtC (cS l)) = TX at *
                      have hl2 : ((ls.take k).map fun l => cS l.data.toList).length + 1 ≤ 4398046511104 := by rw [List.length_map, List.length_take]; omega
                      generalize hM : (ls.take k).map (fun l => cS l.data.toList) = M at *
                      have HM := hide hM; clear hM
                      have hne := HNE.out
                      go_wp2_with (first | (go_at_call 12; refine HCH.out.mono ?_; rintro e w4 ⟨rfl, hb4⟩; have K4 := HK1.out.below hb4 (by simp [World.setCell]); have k4 := K4.cell; have f4 := K4.free; have HO4 := hide ((HO3.out.all HW4.out).all hb4); have HB4 := hide (bthen HW3.out HW3.out.size hb4); have HBB4 := hide (bthen HBB3.out HBB3.out.size (bthen HW4.out HW4.out.size hb4)); clear hb4 K4) | (at_builtin; refine app1_chg (c := ⟨2, n, x.extract (1 + D + 1) x.size⟩) rfl _ _ rfl rfl HO4.out (by first | rfl | (simp; done)) hl2 (by have := HBB4.out.size; omega) ?_; intro v5 w5 ho5 hg5 hv5; have HB5 := hide (below_own HB4.out HO4.out.2 hg5 hs1 (by have := HB4.out.size; omega)); have HBB5 := hide (below_own HBB4.out HO4.out.2 hg5 (Nat.le_refl _) HBB4.out.size); have HO5 := hide ho5; clear hv5 ho5))
                      go_roundw
                      case rel => exact ⟨k + 1, by omega, by go_num, HOK2.out, by rw [HNEW.out]; exact HO5.out, HB5.out, HBB5.out⟩
                      case measure => simp [intOf]; omega
      · have hkl : k = ls.length := by omega
        subst hkl
        have hall : ls.all (fun l => okS l.data.toList) = true := by have := HOK.out; rwa [List.take_length] at this
        have hO2 := HO.out
        rw [List.take_length] at hO2
        have hz : ∀ c ∈ ls.map (fun l => cS l.data.toList), c.t.size ≤ 9223372036854775807 := by
          intro c hc
          obtain ⟨x, hx, rfl⟩ := List.mem_map.1 hc
          have h1 := cS_t_bd x.data.toList
          have h2 := HLB.out x hx
          rw [Array.length_toList] at h1
          exact Nat.le_trans h1 (Nat.le_trans h2 (by omega))
        have HV := hide (show R = if chgS (ls.map fun l => cS l.data.toList) = true then some (ls.map fun l => cS l.data.toList) else none by rw [HVAL.out]; simp [HLA.out, hl4, hall])
        have HO2 := hide hO2; have HZ := hide hz; clear hO2 hall HO hz
        generalize ls.map (fun l => cS l.data.toList) = M at *
        cases hv : chgS M
        · have hr : R = none := by rw [HV.out, hv]; simp
          have HRN := hide hr; have HVV := hide hv; clear hr hv
          go_wp2_with (go_at_call 13; refine (c_l32Ok _ M _ HO2.out.rd HZ.out).mono ?_; rintro e w2 ⟨rfl, hb2⟩; rw [HVV.out]; have HB2 := hide (bthen HB.out HB.out.size hb2); clear hb2)
          go_ret2
          exact ⟨_, by rw [HRN.out]; rfl, by rw [HRN.out]; exact OwG.nil_ chgV_len _ _ _, HB2.out⟩
        · have hr : R = some M := by rw [HV.out, hv]; simp
          have HRN := hide hr; have HVV := hide hv; clear hr hv
          go_wp2_with (go_at_call 13; refine (c_l32Ok _ M _ HO2.out.rd HZ.out).mono ?_; rintro e w2 ⟨rfl, hb2⟩; rw [HVV.out]; have HO3 := hide (HO2.out.all hb2); have HB2 := hide (bthen HB.out HB.out.size hb2); clear hb2)
          go_ret2
          exact ⟨_, by rw [HRN.out]; rfl, by rw [HRN.out]; exact HO3.out.more hs1, HB2.out⟩
  · have hr : R = none := by rw [hval, if_neg (fun h => hbad ⟨h.1, h.2.1⟩)]
    have HRN := hide hr; clear hr hval
    cases hd : decide (lastF s = [])
    · rw [hd] at HSP
      clear hd hbad
      go_enter Tryd.func4, Tryd.ntmps4
      go_wp2_with (go_at_call 9; refine (HSP.out _).mono ?_; rintro e w1 ⟨v, rfl, ho, hb⟩; have HB1 := hide hb; clear ho hb)
      go_ret2
      exact ⟨_, by rw [HRN.out]; rfl, by rw [HRN.out]; exact OwG.nil_ chgV_len _ _ _, HB1.out⟩
    · have hl4 : 400 < ls.length := by
        have := of_decide_eq_true hd
        exact Nat.lt_of_not_le fun h => hbad ⟨this, h⟩
      rw [hd] at HSP
      clear hd hbad
      go_enter Tryd.func4, Tryd.ntmps4
      go_wp2_with fail
      refine (HSP.out _).mono ?_; rintro e w1 ⟨v, rfl, ho, hb⟩; have HB1 := hide hb
      obtain ⟨A, cap, rfl, hl, hcc, hx⟩ := ho.rd.openS
      clear ho hb hx
      go_wp2
      go_ret2
      exact ⟨_, by rw [HRN.out]; rfl, by rw [HRN.out]; exact OwG.nil_ chgV_len _ _ _, HB1.out⟩
end Go.Proofs.YtjbcanihpcfncaaDoor
