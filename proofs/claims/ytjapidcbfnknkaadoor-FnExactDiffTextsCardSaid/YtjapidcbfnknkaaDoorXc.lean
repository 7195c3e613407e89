/- Contract: changes applied, by the program. -/
import Derived.Test.YtjapidcbfnknkaaDoorXb
namespace Go.Proofs.YtjapidcbfnknkaaDoor
open Go.RowKit
set_option maxHeartbeats 4000000 in
set_option maxRecDepth 20000 in
theorem c_iApply (s : ByteArray) (v : Value) (cs : List Chg) (w : World) (hs : s.size ≤ 1048576) (hr : RdC w v cs) (hz : ∀ c ∈ cs, c.t.size ≤ 1048576) :
    Calls Tryd.prog 28 #[.string s, v] w fun e w' => e = .returned (.tuple #[.string (applyF s cs).1, .int .i64 (applyF s cs).2]) ∧ Below w.heap.size w w' := by
  have HR := hide hr
  by_cases hok : (textB s && chgS cs) = true
  · have hap : applyF s cs = if cs.any (badC (linesF s)) then (mkS [], 6) else joinF (appGo (linesF s) 0 cs) := by unfold applyF; rw [if_pos hok]
    simp only [Bool.and_eq_true] at hok
    obtain ⟨ht, hv⟩ := hok
    have hbd := chgS_bd hv
    have hcl := hbd.1
    have hgood := goodC_of hv
    have hln : (linesF s).length ≤ 200 := by simp [textB] at ht; exact ht.2
    have hsh : Shrt (linesF s) := by rcases line_size (s := s) with h | h; exact h; exact absurd hs h
    have HBD := hide hbd.2
    have HL2 := hide (c_lines2 s · hs)
    generalize hls : linesF s = ls at *
    have HLS := hide hls
    have HT := hide ht; have HV := hide hv; have HAP := hide hap; have HGD := hide hgood; have HSH := hide hsh; have HZ := hide hz
    clear ht hv hap hbd hgood hsh hls hz
    obtain ⟨A, cap, rfl, hl, hc, hx⟩ := hr.openC
    have HX := hide hx; clear hx hr
    go_enter Tryd.func28, Tryd.ntmps28
    go_wp2_with fail
    refine (c_isText s _ hs).mono ?_; rintro e w' ⟨rfl, rfl⟩; rw [HT.out]
    go_wp2_with fail
    refine (c_areChanges _ cs _ HR.out).mono ?_; rintro e w1 ⟨rfl, hb1⟩; rw [HV.out]
    have hs1 := hb1.size
    have HB1 := hide hb1; clear hb1
    go_wp2_with fail
    refine (HL2.out w1).mono ?_; rintro e w2 ⟨lcap, hlcx, rfl, ho2, hb2⟩
    have hlc := (cap_of ho2.rd rfl).2
    obtain ⟨hlc1, hlc2⟩ := hlc
    have hs2 := hb2.size
    have hg2 : w1.heap.size < w2.heap.size := (ho2.lt _ rfl).2
    have HO2 := hide ho2; have HB2 := hide (bthen HB1.out hs1 hb2); clear ho2 hb2
    go_wp2_with (go_at_call 62; refine (c_sizeS _ ls _ HO2.out.rd).mono ?_; rintro e w' ⟨rfl, rfl⟩)
    go_loopw [8, 9, 27] (fun o nv iv wr => ∃ (k nx : Nat) (out : List ByteArray), k ≤ cs.length ∧ iv = .int .i64 (k : Int) ∧ nv = .int .i64 (nx : Int) ∧ nx ≤ ls.length ∧ out.length ≤ nx + k ∧ goodC nx (cs.drop k) ∧ out ++ appGo ls nx (cs.drop k) = appGo ls 0 cs ∧ (cs.take k).any (badC ls) = false ∧ Shrt out ∧ OwS 9 wr w2.heap.size o out ∧ Below w.heap.size w wr ∧ Below w2.heap.size w2 wr) (fun _ _ iv _ => cs.length - (intOf iv).toNat)
    case atStart => exact ⟨0, 0, [], Nat.zero_le _, rfl, rfl, Nat.zero_le _, by simp, by simpa using HGD.out, by simp, by simp, by intro x hx; simp at hx, new_str w2, HB2.out.alloc HB2.out.size _, (Below.refl _ _).alloc (Nat.le_refl _) _⟩
    case round =>
      obtain ⟨k, nx, out, hk, rfl, rfl, hnx, hol, hgd, heq, hnb, hso, ho, hb, hbb⟩ := hrel
      have HGD2 := hide hgd; have HEQ := hide heq; have HNB := hide hnb; have HSO := hide hso; have HO := hide ho; have HB := hide hb; have HBB := hide hbb; have hszz := hbb.size
      have hnlc : nx < lcap := by omega
      clear heq hnb hso ho hb hbb
      by_cases hlt : k < cs.length
      · have hgc := List.getElem?_eq_getElem hlt
        obtain ⟨hkk, hp0, hp2⟩ := HBD.out k _ hgc
        have hcz := HZ.out cs[k] (List.getElem_mem hlt)
        obtain ⟨b, off, rfl, hbw, e0, e1, e2⟩ := HX.out k _ hgc
        have d0 := (HB.out.cell hbw).trans e0
        have d1 := (HB.out.cell hbw).trans e1
        have d2 := (HB.out.cell hbw).trans e2
        rw [List.drop_eq_getElem_cons hlt] at hgd
        have hstep : out ++ ((ls.drop nx).take (cs[k].p.toNat - nx) ++ (if cs[k].k = 1 then [] else [cs[k].t]) ++ appGo ls (if cs[k].k = 1 then cs[k].p.toNat + 1 else cs[k].p.toNat) (cs.drop (k + 1))) = appGo ls 0 cs := by
          rw [← appGo_step, ← HEQ.out, List.drop_eq_getElem_cons hlt]
        have HST := hide hstep
        clear e0 e1 e2 hstep
        generalize hg : cs[k] = c at *
        have HG := hide hgc; clear hg hgc
        obtain ⟨_, hpn, _, _, hgr⟩ := hgd
        obtain ⟨p, hpp⟩ : ∃ p : Nat, c.p = (p : Int) := ⟨c.p.toNat, by omega⟩
        have htn : c.p.toNat = p := by omega
        rw [hpp] at hgr
        have HGR := hide hgr
        have HPP := hide hpp; have HTN := hide htn
        clear hgr htn
        rw [HPP.out] at d1 hpn hp0 hp2
        have hnp : nx ≤ p := by omega
        by_cases hbig : ls.length < p
        · have hq : (ls.length : Int) < (p : Int) := by omega
          have hbadd := any_bad HG.out (badC_true1 (ls := ls) (by rw [HPP.out]; exact hq))
          have HBAD := hide hbadd; clear hbadd
          clear hpp
          go_wp2
          go_quiet (fail)
          go_wp2
          go_ret2
          rw [HAP.out, if_pos HBAD.out]
          exact ⟨rfl, below_drewN (HB.out.alloc HB.out.size _) _⟩
        · have hle : p ≤ ls.length := by omega
          have hnl : ¬ (ls.length : Int) < (p : Int) := by omega
          have hlk : ∀ x, ls[p]? = some x → wr.cell? ⟨w1.heap.size, p, none⟩ = some (.string x) := by
            intro x hx
            have h1 := HO2.out.cellN hx (j := 0) (u := .string x) rfl
            rw [Nat.mul_one, Nat.add_zero] at h1
            exact (HBB.out.cell hg2).trans h1
          have HLK := hide hlk; clear hlk hpp
          have hgwr : w1.heap.size < wr.heap.size := by omega
          rcases hkk with hkk | hkk
          · by_cases hpe : p = ls.length
            · have hbadd := any_bad HG.out (badC_true2 (ls := ls) hkk (by rw [HPP.out, hpe]))
              have HBAD := hide hbadd; clear hbadd
              subst hpe
              go_wp2
              go_quiet (fail)
              go_wp2
              go_ret2
              rw [HAP.out, if_pos HBAD.out]
              exact ⟨rfl, below_drewN (HB.out.alloc HB.out.size _) _⟩
            · have hpl : p < ls.length := by omega
              have hpl2 : ((p : Int) == (ls.length : Int)) = false := by simp; omega
              have hpl3 : (p : Int) < (ls.length : Int) := by omega
              have hxg : ls[p]? = some ls[p] := List.getElem?_eq_getElem hpl
              have hlc := HLK.out _ hxg
              generalize ls[p] = x at *
              have HXG := hide hxg; clear hxg
              by_cases hxe : x = c.t
              · have hbn := any_next HNB.out HG.out (badC_false1 (ls := ls) hkk (by rw [HTN.out, HXG.out, hxe]) (by rw [HPP.out]; omega))
                have HBN := hide hbn; clear hbn
                rw [hxe] at hlc
                have HXE := hide hxe; clear hxe
                have HKK := hide hkk
                go_wp2
                go_quiet (fail)
                have hw2 : w.heap.size ≤ w2.heap.size := HB2.out.size
                go_wp2_with (at_builtin; refine appm_str rfl _ _ rfl rfl (HO.out.all (by repeat (first | exact Below.refl _ _ | assumption | refine Below.drew ?_ | refine below_drewN ?_ _ | refine Below.alloc ?_ (by simp <;> omega) _ | refine Below.setCell ?_ (by simp <;> omega) _))) (ys := (ls.drop nx).take (p - nx)) rfl (RdS_sub0 (HO2.out.rd.below (bthen HBB.out HBB.out.size (by repeat (first | exact Below.refl _ _ | assumption | refine Below.drew ?_ | refine below_drewN ?_ _ | refine Below.alloc ?_ (by simp <;> omega) _ | refine Below.setCell ?_ (by simp <;> omega) _)))) hnp hle) (by rw [List.length_take]; omega) (by first | (simp; omega) | omega) ?_; intro v3 w3 ho3 hg3 hv3; have hb3 := below_own (bthen HB.out HB.out.size (by repeat (first | exact Below.refl _ _ | assumption | refine Below.drew ?_ | refine below_drewN ?_ _ | refine Below.alloc ?_ (by simp <;> omega) _ | refine Below.setCell ?_ (by simp <;> omega) _))) (HO.out.all (by repeat (first | exact Below.refl _ _ | assumption | refine Below.drew ?_ | refine below_drewN ?_ _ | refine Below.alloc ?_ (by simp <;> omega) _ | refine Below.setCell ?_ (by simp <;> omega) _))).2 hg3 hw2 (by first | (simp; omega) | omega); have hb4 := below_own (bthen HBB.out HBB.out.size (by repeat (first | exact Below.refl _ _ | assumption | refine Below.drew ?_ | refine below_drewN ?_ _ | refine Below.alloc ?_ (by simp <;> omega) _ | refine Below.setCell ?_ (by simp <;> omega) _))) (HO.out.all (by repeat (first | exact Below.refl _ _ | assumption | refine Below.drew ?_ | refine below_drewN ?_ _ | refine Below.alloc ?_ (by simp <;> omega) _ | refine Below.setCell ?_ (by simp <;> omega) _))).2 hg3 (Nat.le_refl _) (by first | (simp; omega) | omega); have hbk := ((Bk.born wr 80 #[.int .i64 1, .int .i64 (p : Int), .string c.t]).drewN _).grown hg3 (fun e => by have := (HO.out.lt _ e.symm).2; omega); have q0 := hbk.cell 0; have q1 := hbk.cell 1; have q2 := hbk.cell 2; simp at q0 q1 q2; have hs3 := hb4.size; have HO3 := hide ho3; have HB3 := hide hb3; have HB4 := hide hb4; clear ho3 hb3 hb4 hv3 hg3 hbk)
                go_roundw
                case rel => exact ⟨k + 1, p + 1, out ++ (ls.drop nx).take (p - nx), by omega, by go_num, by go_num, by omega, by rw [List.length_append, List.length_take]; omega, by have := HGR.out; rw [if_pos HKK.out] at this; exact this, by have := HST.out; rw [HTN.out, if_pos HKK.out, if_pos HKK.out, List.append_nil] at this; rw [List.append_assoc]; exact this, HBN.out, fun x hx => by
                  rcases List.mem_append.1 hx with hx | hx
                  · exact HSO.out x hx
                  · exact HSH.out x (List.mem_of_mem_drop (List.mem_of_mem_take hx)), HO3.out, HB3.out, HB4.out⟩
                case measure => simp [intOf]; omega
              · have hbadd := any_bad HG.out (badC_true3 (ls := ls) hkk (by rw [HTN.out]; exact HXG.out) hxe)
                have hse : (x.toList == c.t.toList) = false := by rw [str_eq]; exact decide_eq_false hxe
                have hse2 : (x.toList != c.t.toList) = true := by simp only [bne, hse]; rfl
                have HBAD := hide hbadd; clear hbadd hxe
                go_wp2
                go_quiet (fail)
                go_wp2
                go_ret2
                rw [HAP.out, if_pos HBAD.out]
                exact ⟨rfl, below_drewN (HB.out.alloc HB.out.size _) _⟩
          · have hk1 : ¬ c.k = 1 := by omega
            have hbn := any_next HNB.out HG.out (badC_false2 (ls := ls) hk1 (by rw [HPP.out]; omega))
            have HBN := hide hbn; clear hbn
            have HK1 := hide hk1; clear hk1
            have hw2 : w.heap.size ≤ w2.heap.size := HB2.out.size
            have HCZ := hide hcz
            go_wp2
            go_quiet (fail)
            go_wp2_with (first | (at_builtin; refine appm_str rfl _ _ rfl rfl (HO.out.all (by repeat (first | exact Below.refl _ _ | assumption | refine Below.drew ?_ | refine below_drewN ?_ _ | refine Below.alloc ?_ (by simp <;> omega) _ | refine Below.setCell ?_ (by simp <;> omega) _))) (ys := (ls.drop nx).take (p - nx)) rfl (RdS_sub0 (HO2.out.rd.below (bthen HBB.out HBB.out.size (by repeat (first | exact Below.refl _ _ | assumption | refine Below.drew ?_ | refine below_drewN ?_ _ | refine Below.alloc ?_ (by simp <;> omega) _ | refine Below.setCell ?_ (by simp <;> omega) _)))) hnp hle) (by rw [List.length_take]; omega) (by first | (simp; omega) | omega) ?_; intro v3 w3 ho3 hg3 hv3; have hb3 := below_own (bthen HB.out HB.out.size (by repeat (first | exact Below.refl _ _ | assumption | refine Below.drew ?_ | refine below_drewN ?_ _ | refine Below.alloc ?_ (by simp <;> omega) _ | refine Below.setCell ?_ (by simp <;> omega) _))) (HO.out.all (by repeat (first | exact Below.refl _ _ | assumption | refine Below.drew ?_ | refine below_drewN ?_ _ | refine Below.alloc ?_ (by simp <;> omega) _ | refine Below.setCell ?_ (by simp <;> omega) _))).2 hg3 hw2 (by first | (simp; omega) | omega); have hb4 := below_own (bthen HBB.out HBB.out.size (by repeat (first | exact Below.refl _ _ | assumption | refine Below.drew ?_ | refine below_drewN ?_ _ | refine Below.alloc ?_ (by simp <;> omega) _ | refine Below.setCell ?_ (by simp <;> omega) _))) (HO.out.all (by repeat (first | exact Below.refl _ _ | assumption | refine Below.drew ?_ | refine below_drewN ?_ _ | refine Below.alloc ?_ (by simp <;> omega) _ | refine Below.setCell ?_ (by simp <;> omega) _))).2 hg3 (Nat.le_refl _) (by first | (simp; omega) | omega); have hbk := ((Bk.born wr 80 #[.int .i64 2, .int .i64 (p : Int), .string c.t]).drewN _).grown hg3 (fun e => by have := (HO.out.lt _ e.symm).2; omega); have q0 := hbk.cell 0; have q1 := hbk.cell 1; have q2 := hbk.cell 2; simp at q0 q1 q2; have hs3 := hb4.size; have HO3 := hide ho3; have HB3 := hide hb3; have HB4 := hide hb4; clear ho3 hb3 hb4 hv3 hg3 hbk; (try (simp at q0))) | (at_builtin; refine app1_str (n := c.t) rfl _ _ rfl rfl HO3.out rfl (by rw [List.length_append, List.length_take]; omega) hs3 ?_; intro v4 w4 ho4 hg4 hv4; have hb5 := below_own HB3.out HO3.out.2 hg4 hw2 (Nat.le_trans hw2 hs3); have hb6 := below_own HB4.out HO3.out.2 hg4 (Nat.le_refl _) hs3; have HO4 := hide ho4; have HB5 := hide hb5; have HB6 := hide hb6; clear ho4 hb5 hb6 hv4 hg4))
            go_roundw
            case rel => exact ⟨k + 1, p, out ++ (ls.drop nx).take (p - nx) ++ [c.t], by omega, by go_num, rfl, by omega, by rw [List.length_append, List.length_append, List.length_take]; simp; omega, by have := HGR.out; rw [if_neg HK1.out] at this; exact this, by have := HST.out; rw [HTN.out, if_neg HK1.out, if_neg HK1.out] at this; rw [List.append_assoc, List.append_assoc]; simpa using this, HBN.out, fun x hx => by
              rcases List.mem_append.1 hx with hx | hx
              · rcases List.mem_append.1 hx with hx | hx
                · exact HSO.out x hx
                · exact HSH.out x (List.mem_of_mem_drop (List.mem_of_mem_take hx))
              · simp at hx; rw [hx]; exact HCZ.out, HO4.out, HB5.out, HB6.out⟩
            case measure => simp [intOf]; omega
      · have hall : (cs.any (badC ls)) = false := by have := HNB.out; rw [List.take_of_length_le (by omega)] at this; exact this
        have hfin : out ++ ls.drop nx = appGo ls 0 cs := by have := HEQ.out; rw [List.drop_eq_nil_of_le (by omega)] at this; exact this
        have HALL := hide hall; have HFIN := hide hfin; clear hall hfin
        have hw2 : w.heap.size ≤ w2.heap.size := HB2.out.size
        have hdl : (ls.drop nx).take (ls.length - nx) = ls.drop nx := List.take_of_length_le (by simp)
        have HDL := hide hdl; clear hdl
        go_wp2_with (at_builtin; refine appm_str rfl _ _ rfl rfl (HO.out.all (by repeat (first | exact Below.refl _ _ | assumption | refine Below.drew ?_ | refine below_drewN ?_ _ | refine Below.alloc ?_ (by simp <;> omega) _ | refine Below.setCell ?_ (by simp <;> omega) _))) (ys := (ls.drop nx).take (ls.length - nx)) rfl (RdS_sub0 (HO2.out.rd.below (bthen HBB.out HBB.out.size (by repeat (first | exact Below.refl _ _ | assumption | refine Below.drew ?_ | refine below_drewN ?_ _ | refine Below.alloc ?_ (by simp <;> omega) _ | refine Below.setCell ?_ (by simp <;> omega) _)))) hnx (Nat.le_refl _)) (by rw [List.length_take]; omega) (by first | (simp; omega) | omega) ?_; intro v3 w3 ho3 hg3 hv3; have hb3 := below_own (bthen HB.out HB.out.size (by repeat (first | exact Below.refl _ _ | assumption | refine Below.drew ?_ | refine below_drewN ?_ _ | refine Below.alloc ?_ (by simp <;> omega) _ | refine Below.setCell ?_ (by simp <;> omega) _))) (HO.out.all (by repeat (first | exact Below.refl _ _ | assumption | refine Below.drew ?_ | refine below_drewN ?_ _ | refine Below.alloc ?_ (by simp <;> omega) _ | refine Below.setCell ?_ (by simp <;> omega) _))).2 hg3 hw2 (by first | (simp; omega) | omega); rw [HDL.out, HFIN.out] at ho3; have HO3 := hide ho3; have HB3 := hide hb3; clear ho3 hb3 hv3 hg3)
        have HSF : Sec (Shrt (appGo ls 0 cs)) := hide (by
          rw [← HFIN.out]
          intro x hx
          rcases List.mem_append.1 hx with hx | hx
          · exact HSO.out x hx
          · exact HSH.out x (List.mem_of_mem_drop hx))
        go_wp2_with fail
        refine (c_joinLines _ (appGo ls 0 cs) _ HO3.out.rd HSF.out).mono ?_; rintro e w' ⟨rfl, rfl⟩
        go_wp2
        go_ret2
        rw [HAP.out, HALL.out]
        exact ⟨rfl, HB3.out⟩
  · have hap : applyF s cs = (mkS [], 1) := by unfold applyF; rw [if_neg hok]
    rw [hap]
    have hq : textB s = false ∨ (textB s = true ∧ chgS cs = false) := by
      cases h1 : textB s <;> cases h2 : chgS cs <;> simp_all
    clear hok hap
    rcases hq with h1 | ⟨h1, h2⟩
    · have H1 := hide h1; clear h1
      go_enter Tryd.func28, Tryd.ntmps28
      go_wp2_with fail
      refine (c_isText s _ hs).mono ?_; rintro e w' ⟨rfl, rfl⟩; rw [H1.out]
      go_wp2
      go_ret2
      exact ⟨rfl, Below.refl _ _⟩
    · have H1 := hide h1; have H2 := hide h2; clear h1 h2
      go_enter Tryd.func28, Tryd.ntmps28
      go_wp2_with fail
      refine (c_isText s _ hs).mono ?_; rintro e w' ⟨rfl, rfl⟩; rw [H1.out]
      go_wp2_with fail
      refine (c_areChanges _ cs _ HR.out).mono ?_; rintro e w1 ⟨rfl, hb1⟩; rw [H2.out]
      have HB1 := hide hb1; clear hb1
      go_wp2
      go_ret2
      exact ⟨rfl, HB1.out⟩
end Go.Proofs.YtjapidcbfnknkaaDoor
