/- Contract: changes applied, by the reference. -/
import Derived.Test.YtjapidcbfnknkaaDoorXd
namespace Go.Proofs.YtjapidcbfnknkaaDoor
open Go.RowKit
set_option maxHeartbeats 4000000 in
set_option maxRecDepth 20000 in
theorem c_sApply (s : ByteArray) (v : Value) (cs : List Chg) (w : World) (hs : s.size ≤ 1048576) (hr : RdC w v cs) (hz : ∀ c ∈ cs, c.t.size ≤ 1048576) :
    Calls Tryd.prog 26 #[.string s, v] w fun e w' => e = .returned (.tuple #[.string (applyF s cs).1, .int .i64 (applyF s cs).2]) ∧ Below w.heap.size w w' := by
  have HR := hide hr
  have HZ9 : Sec (∀ c ∈ cs, c.t.size ≤ 9223372036854775807) := hide fun c hc => Nat.le_trans (hz c hc) (by omega)
  by_cases hok : (textB s && chgS cs) = true
  · have hap : applyF s cs = if cs.any (badC (linesF s)) then (mkS [], 6) else joinF (appGo (linesF s) 0 cs) := by unfold applyF; rw [if_pos hok]
    simp only [Bool.and_eq_true] at hok
    obtain ⟨ht, hv⟩ := hok
    have hbd := chgS_bd hv
    have hcl := hbd.1
    have hgood := goodC_of hv
    have hln : (linesF s).length ≤ 200 := by simp [textB] at ht; exact ht.2
    have hsh : Shrt (linesF s) := by rcases line_size (s := s) with h | h; exact h; exact absurd hs h
    have HBD := hide hbd.2
    have HL2 : Sec (∀ W, Calls Tryd.prog 12 #[.string s] W fun e w' => ∃ v, e = .returned (.tuple #[v, .bool true]) ∧ OwS 9 w' W.heap.size v (linesF s) ∧ Below W.heap.size W w') := hide (fun W => by
      have := c_sLines s W hs
      rw [ht] at this
      exact this)
    generalize hls : linesF s = ls at *
    have HLS := hide hls
    have HV := hide hv; have HAP := hide hap; have HGD := hide hgood; have HSH := hide hsh; have HZ := hide hz
    clear ht hv hap hbd hgood hsh hls hz
    obtain ⟨A, cap, rfl, hl, hc, hx⟩ := hr.openC
    have HX := hide hx; clear hx hr
    go_enter Tryd.func26, Tryd.ntmps26
    go_wp2_with fail
    refine (HL2.out _).mono ?_; rintro e w1 ⟨lv, rfl, ho1, hb1⟩
    have hs1 := hb1.size
    obtain ⟨lA, lcap, rfl, hlc1, hlc2, hly⟩ := ho1.rd.openS
    have HLY := hide hly
    have HO1 := hide ho1; have HB1 := hide hb1; clear ho1 hb1 hly
    go_wp2_with fail
    refine (c_l32Ok _ cs _ (HR.out.below HB1.out) HZ9.out).mono ?_; rintro e w2 ⟨rfl, hb2⟩; rw [HV.out]
    have hs2 := hb2.size
    have HX2 := hide (hb2); have HB2 := hide (bthen HB1.out hs1 hb2); clear hb2
    have hww : w.heap.size ≤ w2.heap.size := by omega
    go_wp2_with fail
    go_loopw [8] (fun iv wr => ∃ k : Nat, k ≤ cs.length ∧ iv = .int .i64 (k : Int) ∧ (cs.take k).any (badC ls) = false ∧ Below w.heap.size w wr ∧ Below w2.heap.size w2 wr) (fun iv _ => cs.length - (intOf iv).toNat)
    case atStart => exact ⟨0, Nat.zero_le _, rfl, by simp, HB2.out, Below.refl _ _⟩
    case round =>
      obtain ⟨k, hk, rfl, hnb, hb, hbb⟩ := hrel
      have HNB := hide hnb; have HB := hide hb; have HBB := hide hbb; have hszz := hbb.size
      clear hnb hb hbb
      by_cases hlt : k < cs.length
      · have hgc := List.getElem?_eq_getElem hlt
        obtain ⟨hkk, hp0, hp2⟩ := HBD.out k _ hgc
        obtain ⟨b, off, rfl, hbw, e0, e1, e2⟩ := HX.out k _ hgc
        have d0 := (HB.out.cell hbw).trans e0
        have d1 := (HB.out.cell hbw).trans e1
        have d2 := (HB.out.cell hbw).trans e2
        clear e0 e1 e2
        generalize hg : cs[k] = c at *
        have HG := hide hgc; clear hg hgc
        obtain ⟨p, hpp⟩ : ∃ p : Nat, c.p = (p : Int) := ⟨c.p.toNat, by omega⟩
        have htn : c.p.toNat = p := by omega
        have HPP := hide hpp; have HTN := hide htn
        clear htn
        rw [HPP.out] at d1 hp0 hp2
        by_cases hbig : ls.length < p
        · have hq : (ls.length : Int) < (p : Int) := by omega
          have hbadd := any_bad HG.out (badC_true1 (ls := ls) (by rw [HPP.out]; exact hq))
          have HBAD := hide hbadd; clear hbadd
          clear hpp
          go_wp2
          go_quiet (fail)
          go_wp2
          go_ret2
          rw [HAP.out, if_pos HBAD.out]
          exact ⟨rfl, below_drewN (HB.out.alloc HB.out.size _) _⟩
        · have hle : p ≤ ls.length := by omega
          have hnl : ¬ (ls.length : Int) < (p : Int) := by omega
          have hlk : ∀ x, ls[p]? = some x → ∃ lb lo, lA = some ⟨lb, lo, none⟩ ∧ lb < wr.heap.size ∧ wr.cell? ⟨lb, lo + p, none⟩ = some (.string x) := by
            intro x hx
            obtain ⟨lb, lo, h1, h2, h3⟩ := HLY.out p x hx
            exact ⟨lb, lo, h1, Nat.lt_of_lt_of_le (Nat.lt_of_lt_of_le h2 HX2.out.size) HBB.out.size, (HBB.out.cell (Nat.lt_of_lt_of_le h2 HX2.out.size)).trans ((HX2.out.cell h2).trans h3)⟩
          have HLK := hide hlk; clear hlk hpp
          rcases hkk with hkk | hkk
          · by_cases hpe : p = ls.length
            · have hbadd := any_bad HG.out (badC_true2 (ls := ls) hkk (by rw [HPP.out, hpe]))
              have HBAD := hide hbadd; clear hbadd
              subst hpe
              go_wp2
              go_quiet (fail)
              go_wp2
              go_ret2
              rw [HAP.out, if_pos HBAD.out]
              exact ⟨rfl, below_drewN (HB.out.alloc HB.out.size _) _⟩
            · have hpl : p < ls.length := by omega
              have hpl2 : ((p : Int) == (ls.length : Int)) = false := by simp; omega
              have hpl3 : (p : Int) < (ls.length : Int) := by omega
              have hxg : ls[p]? = some ls[p] := List.getElem?_eq_getElem hpl
              obtain ⟨lb, lo, rfl, hlb, hlc⟩ := HLK.out _ hxg
              generalize ls[p] = x at *
              have HXG := hide hxg; clear hxg
              by_cases hxe : x = c.t
              · have hbn := any_next HNB.out HG.out (badC_false1 (ls := ls) hkk (by rw [HTN.out, HXG.out, hxe]) (by rw [HPP.out]; omega))
                have HBN := hide hbn; clear hbn
                rw [hxe] at hlc
                have HXE := hide hxe; clear hxe
                go_wp2
                go_quiet (fail)
                go_wp2
                go_roundw
                case rel => exact ⟨k + 1, by omega, by go_num, HBN.out, below_drewN (HB.out.alloc HB.out.size _) _, below_drewN (HBB.out.alloc HBB.out.size _) _⟩
                case measure => simp [intOf]; omega
              · have hbadd := any_bad HG.out (badC_true3 (ls := ls) hkk (by rw [HTN.out]; exact HXG.out) hxe)
                have hse : (x.toList == c.t.toList) = false := by rw [str_eq]; exact decide_eq_false hxe
                have hse2 : (x.toList != c.t.toList) = true := by simp only [bne, hse]; rfl
                have HBAD := hide hbadd; clear hbadd hxe
                go_wp2
                go_quiet (fail)
                go_wp2
                go_ret2
                rw [HAP.out, if_pos HBAD.out]
                exact ⟨rfl, below_drewN (HB.out.alloc HB.out.size _) _⟩
          · have hbn := any_next HNB.out HG.out (badC_false2 (ls := ls) (by omega) (by rw [HPP.out]; omega))
            have HBN := hide hbn; clear hbn
            go_wp2
            go_quiet (fail)
            go_wp2
            go_roundw
            case rel => exact ⟨k + 1, by omega, by go_num, HBN.out, below_drewN (HB.out.alloc HB.out.size _) _, below_drewN (HBB.out.alloc HBB.out.size _) _⟩
            case measure => simp [intOf]; omega
      · have hall : (cs.any (badC ls)) = false := by have := HNB.out; rw [List.take_of_length_le (by omega)] at this; exact this
        have HALL := hide hall; clear hall
        go_wp2_with fail
        clear hlt
        generalize wr = wo at *
        have HBX := HB; have HBBX := HBB
        go_loopw [10, 11, 12] (fun o kv iv wr => ∃ (j i : Nat) (out : List ByteArray), j ≤ cs.length ∧ kv = .int .i64 (j : Int) ∧ iv = .int .i64 (i : Int) ∧ i ≤ ls.length + 1 ∧ out.length ≤ i + j ∧ (i ≤ ls.length → ApS ls cs i j false out) ∧ (ls.length < i → out = appGo ls 0 cs) ∧ Shrt out ∧ OwS 9 wr wo.heap.size o out ∧ Below w.heap.size w wr ∧ Below wo.heap.size wo wr ∧ Below w2.heap.size w2 wr) (fun _ _ iv _ => ls.length + 1 - (intOf iv).toNat)
        case atStart => exact ⟨0, 0, [], Nat.zero_le _, rfl, rfl, by omega, by simp, fun _ => by simp only [ApS, Bool.false_eq_true, if_false]; exact ⟨by simpa using HGD.out, by simp⟩, fun h => by omega, by intro x hx; simp at hx, new_str wo, HB.out.alloc HB.out.size _, (Below.refl _ _).alloc (Nat.le_refl _) _, HBB.out.alloc HBB.out.size _⟩
        case round =>
          obtain ⟨j, i, out, hj, rfl, rfl, hi, hol, hap, hfin, hso, ho, hb3, hbb3, hbq3⟩ := hrel
          have HBQ3 := hide hbq3; clear hbq3
          have HAPS := hide hap; have HFIN := hide hfin; have HSO := hide hso; have HO := hide ho; have HB3 := hide hb3; have HBB3 := hide hbb3
          clear hap hfin hso ho hb3 hbb3
          by_cases hil : i ≤ ls.length
          · have HAP0 := hide (HAPS.out hil)
            have hwwo : w.heap.size ≤ wo.heap.size := HBX.out.size
            have hw2o : w2.heap.size ≤ wo.heap.size := HBBX.out.size
            go_wp2_with fail
            generalize wr = wp at *
            go_loopw [10, 11, 13] (fun o kv gv wr => ∃ (j2 : Nat) (g : Bool) (out2 : List ByteArray), j2 ≤ cs.length ∧ kv = .int .i64 (j2 : Int) ∧ gv = .bool g ∧ out2.length ≤ i + j2 ∧ ApS ls cs i j2 g out2 ∧ Shrt out2 ∧ OwS 9 wr wo.heap.size o out2 ∧ Below w.heap.size w wr ∧ Below wo.heap.size wo wr ∧ Below w2.heap.size w2 wr) (fun _ kv _ _ => cs.length - (intOf kv).toNat)
            case atStart => exact ⟨j, false, out, hj, rfl, rfl, hol, HAP0.out, HSO.out, HO.out, HB3.out, HBB3.out, HBQ3.out⟩
            case round =>
              obtain ⟨j2, g, out2, hj2, rfl, rfl, hol2, hae, hso4, ho4, hb4, hbo4, hbb4⟩ := hrel
              have HSO4 := hide hso4; have HO4 := hide ho4; have HB4 := hide hb4; have HBO4 := hide hbo4; have HBB4 := hide hbb4; have hs4 := hbo4.size
              clear hso4 ho4 hb4 hbo4 hbb4
              by_cases hlt : j2 < cs.length
              · have hgc := List.getElem?_eq_getElem hlt
                obtain ⟨hkk, hp0, hp2⟩ := HBD.out j2 _ hgc
                have hcz := HZ.out cs[j2] (List.getElem_mem hlt)
                have hnb := all_good HALL.out 0 cs[j2] (by rw [List.drop_zero]; exact List.getElem_mem hlt)
                obtain ⟨b, off, hbe, hbw, e0, e1, e2⟩ := HX.out j2 _ hgc
                have d0 := (HB4.out.cell hbw).trans e0
                have d1 := (HB4.out.cell hbw).trans e1
                have d2 := (HB4.out.cell hbw).trans e2
                subst hbe
                clear e0 e1 e2
                generalize hg : cs[j2] = c at *
                have HG := hide hgc; have HCZ := hide hcz; have HNBD := hide hnb; clear hg hgc hcz hnb
                by_cases hpi : c.p = (i : Int)
                · cases g
                  · have HAE := hide hae; clear hae
                    have HPI := hide hpi
                    rw [hpi] at d1 hp0 hp2
                    clear hpi
                    rcases hkk with hkk | hkk
                    · have HKK := hide hkk
                      have hin : i < ls.length := by
                        rcases Nat.lt_or_ge i ls.length with h | h
                        · exact h
                        · have := badC_true2 (ls := ls) HKK.out (by rw [HPI.out]; omega)
                          rw [HNBD.out] at this; cases this
                      go_wp2
                      go_roundw
                      case rel => exact ⟨j2 + 1, true, out2, by omega, by go_num, rfl, by omega, HAE.out.del HG.out HPI.out HKK.out hin, HSO4.out, HO4.out, HB4.out, HBO4.out, HBB4.out⟩
                      case measure => simp [intOf]; omega
                    · have HK1 := hide (show ¬ c.k = 1 by omega)
                      go_wp2_with (at_builtin; refine app1_str (n := c.t) rfl _ _ rfl rfl HO4.out rfl (by omega) hs4 ?_; intro v5 w5 ho5 hg5 hv5; have hb5 := below_own HB4.out HO4.out.2 hg5 hwwo (Nat.le_trans hwwo hs4); have hb6 := below_own HBO4.out HO4.out.2 hg5 (Nat.le_refl _) hs4; have hb7 := below_own HBB4.out HO4.out.2 hg5 hw2o (Nat.le_trans hw2o hs4); have HO5 := hide ho5; have HB5 := hide hb5; have HB6 := hide hb6; have HB7 := hide hb7; clear ho5 hb5 hb6 hb7 hv5 hg5)
                      go_roundw
                      case rel => exact ⟨j2 + 1, false, out2 ++ [c.t], by omega, by go_num, rfl, by rw [List.length_append]; simp; omega, HAE.out.ins HG.out HPI.out HK1.out, fun y hy => by
                        rcases List.mem_append.1 hy with hy | hy
                        · exact HSO4.out y hy
                        · simp at hy; rw [hy]; exact HCZ.out, HO5.out, HB5.out, HB6.out, HB7.out⟩
                      case measure => simp [intOf]; omega
                  · exact absurd hpi (hae.not HG.out)
                · have hpb : (c.p == (i : Int)) = false := by simpa using hpi
                  have HNX : Sec (∀ d, cs[j2]? = some d → d.p ≠ (i : Int)) := hide (by intro d hd; rw [HG.out] at hd; injection hd with hd; rw [← hd]; exact hpi)
                  clear hpi
                  cases g
                  · have HAE := hide hae; clear hae
                    by_cases hin : i < ls.length
                    · have hin3 : (i : Int) < (ls.length : Int) := by omega
                      have hxg : ls[i]? = some ls[i] := List.getElem?_eq_getElem hin
                      have hxs := HSH.out ls[i] (List.getElem_mem hin)
                      obtain ⟨lb, lo, hla, h2, h3⟩ := HLY.out i _ hxg
                      have hlb : lb < wr.heap.size := Nat.lt_of_lt_of_le (Nat.lt_of_lt_of_le h2 HX2.out.size) HBB4.out.size
                      have hlc := (HBB4.out.cell (Nat.lt_of_lt_of_le h2 HX2.out.size)).trans ((HX2.out.cell h2).trans h3)
                      subst hla
                      generalize ls[i] = x at *
                      have HXG := hide hxg; have HXS := hide hxs; clear hxg h3 hxs
                      go_wp2_with (at_builtin; refine app1_str (n := x) rfl _ _ rfl rfl HO4.out rfl (by omega) hs4 ?_; intro v5 w5 ho5 hg5 hv5; have hb5 := below_own HB4.out HO4.out.2 hg5 hwwo (Nat.le_trans hwwo hs4); have hb6 := below_own HBO4.out HO4.out.2 hg5 (Nat.le_refl _) hs4; have hb7 := below_own HBB4.out HO4.out.2 hg5 hw2o (Nat.le_trans hw2o hs4); have HO5 := hide ho5; have HB5 := hide hb5; have HB6 := hide hb6; have HB7 := hide hb7; clear ho5 hb5 hb6 hb7 hv5 hg5)
                      go_roundw
                      case rel => exact ⟨j2, i + 1, out2 ++ [x], by omega, rfl, by go_num, by omega, by rw [List.length_append]; simp; omega, fun _ => HAE.out.line HNX.out HXG.out, fun h => by omega, fun y hy => by
                        rcases List.mem_append.1 hy with hy | hy
                        · exact HSO4.out y hy
                        · simp at hy; rw [hy]; exact HXS.out, HO5.out, HB5.out, HB6.out, HB7.out⟩
                      case measure => simp [intOf]; omega
                    · have hin3 : ¬ (i : Int) < (ls.length : Int) := by omega
                      have HDN : Sec (out2 = appGo ls 0 cs) := hide (by
                        have hie : i = ls.length := by omega
                        have h1 := HAE.out
                        have h2 := HNX.out
                        rw [hie] at h1 h2
                        exact h1.done h2 HALL.out)
                      go_wp2
                      go_roundw
                      case rel => exact ⟨j2, i + 1, out2, by omega, rfl, by go_num, by omega, by omega, fun h => by omega, fun _ => HDN.out, HSO4.out, HO4.out, HB4.out, HBO4.out, HBB4.out⟩
                      case measure => simp [intOf]; omega
                  · have HAE := hide hae; clear hae
                    have hin : i < ls.length := by have := HAE.out; simp only [ApS, if_true] at this; exact this.1
                    have hin3 : (i : Int) < (ls.length : Int) := by omega
                    go_wp2
                    go_roundw
                    case rel => exact ⟨j2, i + 1, out2, by omega, rfl, by go_num, by omega, by omega, fun _ => HAE.out.gone, fun h => by omega, HSO4.out, HO4.out, HB4.out, HBO4.out, HBB4.out⟩
                    case measure => simp [intOf]; omega
              · have HNX : Sec (∀ d, cs[j2]? = some d → d.p ≠ (i : Int)) := hide (by intro d hd; rw [List.getElem?_eq_none (by omega)] at hd; cases hd)
                cases g
                · have HAE := hide hae; clear hae
                  by_cases hin : i < ls.length
                  · have hin3 : (i : Int) < (ls.length : Int) := by omega
                    have hxg : ls[i]? = some ls[i] := List.getElem?_eq_getElem hin
                    have hxs := HSH.out ls[i] (List.getElem_mem hin)
                    obtain ⟨lb, lo, hla, h2, h3⟩ := HLY.out i _ hxg
                    have hlb : lb < wr.heap.size := Nat.lt_of_lt_of_le (Nat.lt_of_lt_of_le h2 HX2.out.size) HBB4.out.size
                    have hlc := (HBB4.out.cell (Nat.lt_of_lt_of_le h2 HX2.out.size)).trans ((HX2.out.cell h2).trans h3)
                    subst hla
                    generalize ls[i] = x at *
                    have HXG := hide hxg; have HXS := hide hxs; clear hxg h3 hxs
                    go_wp2_with (at_builtin; refine app1_str (n := x) rfl _ _ rfl rfl HO4.out rfl (by omega) hs4 ?_; intro v5 w5 ho5 hg5 hv5; have hb5 := below_own HB4.out HO4.out.2 hg5 hwwo (Nat.le_trans hwwo hs4); have hb6 := below_own HBO4.out HO4.out.2 hg5 (Nat.le_refl _) hs4; have hb7 := below_own HBB4.out HO4.out.2 hg5 hw2o (Nat.le_trans hw2o hs4); have HO5 := hide ho5; have HB5 := hide hb5; have HB6 := hide hb6; have HB7 := hide hb7; clear ho5 hb5 hb6 hb7 hv5 hg5)
                    go_roundw
                    case rel => exact ⟨j2, i + 1, out2 ++ [x], by omega, rfl, by go_num, by omega, by rw [List.length_append]; simp; omega, fun _ => HAE.out.line HNX.out HXG.out, fun h => by omega, fun y hy => by
                      rcases List.mem_append.1 hy with hy | hy
                      · exact HSO4.out y hy
                      · simp at hy; rw [hy]; exact HXS.out, HO5.out, HB5.out, HB6.out, HB7.out⟩
                    case measure => simp [intOf]; omega
                  · have hin3 : ¬ (i : Int) < (ls.length : Int) := by omega
                    have HDN : Sec (out2 = appGo ls 0 cs) := hide (by
                      have hie : i = ls.length := by omega
                      have h1 := HAE.out
                      have h2 := HNX.out
                      rw [hie] at h1 h2
                      exact h1.done h2 HALL.out)
                    go_wp2
                    go_roundw
                    case rel => exact ⟨j2, i + 1, out2, by omega, rfl, by go_num, by omega, by omega, fun h => by omega, fun _ => HDN.out, HSO4.out, HO4.out, HB4.out, HBO4.out, HBB4.out⟩
                    case measure => simp [intOf]; omega
                · have HAE := hide hae; clear hae
                  have hin : i < ls.length := by have := HAE.out; simp only [ApS, if_true] at this; exact this.1
                  have hin3 : (i : Int) < (ls.length : Int) := by omega
                  go_wp2
                  go_roundw
                  case rel => exact ⟨j2, i + 1, out2, by omega, rfl, by go_num, by omega, by omega, fun _ => HAE.out.gone, fun h => by omega, HSO4.out, HO4.out, HB4.out, HBO4.out, HBB4.out⟩
                  case measure => simp [intOf]; omega
          · have HFF := hide (HFIN.out (by omega))
            go_wp2_with fail
            refine (c_l32Join _ out _ HO.out.rd HSO.out).mono ?_; rintro e w5 ⟨rfl, hb5⟩
            have HB5 := hide (bthen HB3.out HB3.out.size hb5); clear hb5
            go_wp2
            go_ret2
            rw [HAP.out, HALL.out, HFF.out]
            exact ⟨rfl, HB5.out⟩
  · have hap : applyF s cs = (mkS [], 1) := by unfold applyF; rw [if_neg hok]
    rw [hap]
    have hq : textB s = false ∨ (textB s = true ∧ chgS cs = false) := by
      cases h1 : textB s <;> cases h2 : chgS cs <;> simp_all
    clear hok hap
    rcases hq with h1 | ⟨h1, h2⟩
    · have HL2 := hide (c_sLines s w hs)
      rw [h1] at HL2
      clear h1
      go_enter Tryd.func26, Tryd.ntmps26
      go_wp2_with fail
      refine (HL2.out).mono ?_; rintro e w1 ⟨lv, rfl, ho1, hb1⟩
      have HB1 := hide hb1; clear hb1 ho1
      go_wp2
      go_ret2
      exact ⟨rfl, HB1.out⟩
    · have HL2 := hide (c_sLines s w hs)
      rw [h1] at HL2
      have H2 := hide h2; clear h1 h2
      go_enter Tryd.func26, Tryd.ntmps26
      go_wp2_with fail
      refine (HL2.out).mono ?_; rintro e w1 ⟨lv, rfl, ho1, hb1⟩
      have hs1 := hb1.size
      have HB1 := hide hb1; clear hb1 ho1
      go_wp2_with fail
      refine (c_l32Ok _ cs _ (HR.out.below HB1.out) HZ9.out).mono ?_; rintro e w2 ⟨rfl, hb2⟩; rw [H2.out]
      have HB2 := hide (bthen HB1.out hs1 hb2); clear hb2
      go_wp2
      go_ret2
      exact ⟨rfl, HB2.out⟩
end Go.Proofs.YtjapidcbfnknkaaDoor
