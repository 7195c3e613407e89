/- Contract: MergeTexts by the reference; by both for all texts. MergeTexts: the law. -/
import Derived.Test.YtpmflkoepnanoaaDoorMg
import Derived.Test.YtpmflkoepnanoaaDoorMa
namespace Go.Proofs.YtpmflkoepnanoaaDoor
section
open Go.RowKit
set_option maxHeartbeats 4000000 in
set_option maxRecDepth 20000 in
theorem c_sMerge_bad (s a b : ByteArray) (w : World) (hs : s.size ≤ 1048576) (ha : a.size ≤ 1048576) (hb : b.size ≤ 1048576) (h : (textB s && textB a && textB b) = false) :
    Calls Tryd.prog 10 #[.string s, .string a, .string b] w fun e w' => e = .returned (.tuple #[.string (mkS []), .int .i64 1]) ∧ Below w.heap.size w w' := by
  cases h1 : textB s <;> cases h2 : textB a <;> cases h3 : textB b
  all_goals (try (exfalso; rw [h1, h2, h3] at h; cases h; done))
  all_goals
    have HA := hide h1; have HT := hide h2; have HU := hide h3; clear h h1 h2 h3
    go_enter Tryd.func10, Tryd.ntmps10
    go_wp2_with fail
    refine (c_sLines s _ hs).mono ?_; rintro e w1 ⟨v1, rfl, _, hb1⟩; rw [HA.out]; have HB1 := hide hb1; clear hb1
    go_wp2_with fail
    refine (c_sLines a _ ha).mono ?_; rintro e w2 ⟨v2, rfl, _, hb2⟩; rw [HT.out]; have HB2 := hide (bthen HB1.out HB1.out.size hb2); clear hb2
    go_wp2_with fail
    refine (c_sLines b _ hb).mono ?_; rintro e w3 ⟨v3, rfl, _, hb3⟩; rw [HU.out]; have HB3 := hide (bthen HB2.out HB2.out.size hb3); clear hb3
    go_wp2
    go_ret2
    exact ⟨rfl, HB3.out⟩
theorem sLines_ok {s : ByteArray} (h : textB s = true) (w : World) (hs : s.size ≤ 1048576) : Calls Tryd.prog 42 #[.string s] w fun e w' => ∃ v, e = .returned (.tuple #[v, .bool true]) ∧ OwS 9 w' w.heap.size v (linesF s) ∧ Below w.heap.size w w' := by
  have := c_sLines s w hs
  rw [h, if_pos rfl] at this
  exact this
set_option maxHeartbeats 4000000 in
set_option maxRecDepth 20000 in
theorem c_sMerge_ok (s a b : ByteArray) (w : World) (hs : s.size ≤ 1048576) (ha : a.size ≤ 1048576) (hb : b.size ≤ 1048576) (ht1 : textB s = true) (ht2 : textB a = true) (ht3 : textB b = true) :
    Calls Tryd.prog 10 #[.string s, .string a, .string b] w fun e w' => e = .returned (.tuple #[.string (mergeF s a b).1, .int .i64 (mergeF s a b).2]) ∧ Below w.heap.size w w' := by
  have HF := hide (mergeF_ok ht1 ht2 ht3)
  have hl0 := text_len ht1; have hla := text_len ht2; have hlb := text_len ht3
  have HS0 := hide (shrt_lines hs); have HSA := hide (shrt_lines ha); have HSB := hide (shrt_lines hb)
  have HA := hide ht1; have HT := hide ht2; have HU := hide ht3; clear ht1 ht2 ht3
  have HL0 := hide (fun w => sLines_ok (s := s) HA.out w hs); have HLA := hide (fun w => sLines_ok (s := a) HT.out w ha); have HLB := hide (fun w => sLines_ok (s := b) HU.out w hb)
  generalize mergeF s a b = P at *
  generalize linesF s = ls at *
  generalize linesF a = la at *
  generalize linesF b = lb at *
  have HDA := hide (diffF_shrt (i := 0) HS0.out HSA.out); have HDB := hide (diffF_shrt (i := 0) HS0.out HSB.out)
  have hna : (diffF 0 ls la).length ≤ 400 := by have := length_diffF 0 ls la; omega
  have hnb : (diffF 0 ls lb).length ≤ 400 := by have := length_diffF 0 ls lb; omega
  have HKA := hide (diffF_kind 0 ls la); have HKB := hide (diffF_kind 0 ls lb)
  go_enter Tryd.func10, Tryd.ntmps10
  go_wp2_with fail
  refine (HL0.out _).mono ?_; rintro e w2 ⟨v0, rfl, ho0, hb0⟩
  have hs2 := hb0.size; have H2 := hide ho0; have B2 := hide hb0; clear ho0 hb0
  go_wp2_with fail
  refine (HLA.out _).mono ?_; rintro e w3 ⟨va, rfl, ho1, hb1⟩
  have hs3 := hb1.size; have H3 := hide (H2.out.all hb1); have A3 := hide ho1; have B3 := hide (bthen B2.out hs2 hb1); clear ho1 hb1
  go_wp2_with fail
  refine (HLB.out _).mono ?_; rintro e w4 ⟨vb, rfl, ho3, hb3⟩
  have hs4 := hb3.size; have H4 := hide (H3.out.all hb3); have A4 := hide (A3.out.all hb3); have C4 := hide ho3; have B4 := hide (bthen B3.out (by omega) hb3); clear ho3 hb3
  go_wp2_with fail
  refine (c_l32Diff _ _ ls la _ H4.out.rd A4.out.rd hl0 hla).mono ?_; rintro e w5 ⟨vA, rfl, ho2, hb2⟩
  have hs5 := hb2.size; have H5 := hide (H4.out.all hb2); have A5 := hide ho2; have C5 := hide (C4.out.all hb2); have B5 := hide (bthen B4.out (by omega) hb2); clear ho2 hb2
  go_wp2_with fail
  refine (c_l32Diff _ _ ls lb _ H5.out.rd C5.out.rd hl0 hlb).mono ?_; rintro e w6 ⟨vB, rfl, ho4, hb4⟩
  have hs6 := hb4.size; have H6 := hide (H5.out.all hb4); have A6 := hide (A5.out.all hb4); have C6 := hide ho4; have B6 := hide (bthen B5.out (by omega) hb4); clear ho4 hb4
  obtain ⟨A0, cp0, rfl, hq0, hr0, hx0⟩ := H6.out.rd.openS
  have HX0 := hide hx0; clear hx0
  generalize diffF 0 ls la = A at *
  generalize diffF 0 ls lb = B at *
  go_wp2
  go_loopw [16, 17] (fun o iv wr => ∃ (k : Nat) (L : List ByteArray), k ≤ ls.length + 1 ∧ iv = .int .i64 (k : Int) ∧ mrgTo ls A B k = some L ∧ Shrt L ∧ OwS 9 wr w6.heap.size o L ∧ Below w.heap.size w wr ∧ Below w6.heap.size w6 wr) (fun _ iv _ => ls.length + 1 - (intOf iv).toNat)
  case atStart => exact ⟨0, [], Nat.zero_le _, rfl, rfl, by intro x hx; simp at hx, new_str w6, B6.out.alloc B6.out.size _, (Below.refl _ _).alloc (Nat.le_refl _) _⟩
  case round =>
    obtain ⟨k, L, hk, rfl, hm, hsh, ho, hb, hbb⟩ := hrel
    have hbd := mrgTo_bd hm
    have HM := hide hm; have HSH := hide hsh; have HO := hide ho; have HB := hide hb; have HBB := hide hbb; have hsz := hbb.size
    clear hm hsh ho hb hbb
    by_cases hlt : k < ls.length + 1
    · have hlt3 : (k : Int) ≤ (ls.length : Int) := by omega
      go_wp2_with fail
      refine (c_l32At _ A (k : Int) _ (A6.out.rd.below HBB.out) HKA.out hna).mono ?_; rintro e w7 ⟨v1, rfl, o1, b1⟩
      have hs7 := b1.size; have O1 := hide o1; have HB7 := hide (bthen HB.out HB.out.size b1); have HBB7 := hide (bthen HBB.out hsz b1); have HO7 := hide (HO.out.all b1); clear o1 b1
      go_wp2_with fail
      refine (c_l32At _ B (k : Int) _ (C6.out.rd.below HBB7.out) HKB.out hnb).mono ?_; rintro e w8 ⟨v2, rfl, o2, b2⟩
      have hs8 := b2.size; have O2 := hide o2; have O18 := hide (O1.out.all b2); have HB8 := hide (bthen HB7.out HB7.out.size b2); have HBB8 := hide (bthen HBB7.out HBB7.out.size b2); have HO8 := hide (HO7.out.all b2); clear o2 b2
      have HSTEP := hide (fun h => mrgTo_step (ls := ls) (A := A) (B := B) (n := k) HM.out h)
      have HSTOP := hide (fun h1 h2 h3 => mrgTo_stop (ls := ls) (A := A) (B := B) (n := k) (by omega) h1 h2 h3)
      have HI1 := hide (insF_shrt (i := (k : Int)) HDA.out); have HI2 := hide (insF_shrt (i := (k : Int)) HDB.out)
      have hin1 := insF_len A (k : Int); have hin2 := insF_len B (k : Int)
      obtain ⟨A1, cp1, rfl, hq1, hr1, _⟩ := O18.out.rd.openS
      obtain ⟨A2, cp2, rfl, hq2, hr2, _⟩ := O2.out.rd.openS
      generalize insF A (k : Int) = I1 at *
      generalize insF B (k : Int) = I2 at *
      generalize delF A (k : Int) = D1 at *
      generalize delF B (k : Int) = D2 at *
      by_cases h1 : I1 = []
      · have HNX := hide (HSTEP.out (fun h => h.1 h1))
        subst h1
        cases D1
        · cases D2
          · by_cases hkl3 : (k : Int) < (ls.length : Int)
            · obtain ⟨x, hgx⟩ : ∃ x, ls[k]? = some x := ⟨_, List.getElem?_eq_getElem (show k < ls.length by omega)⟩
              have HNX2 := hide (show mrgTo ls A B (k + 1) = some (L ++ I2 ++ [x]) by rw [HNX.out, hgx]; simp)
              have HSX := hide (HS0.out x (List.mem_of_getElem? hgx))
              obtain ⟨bx, ox, rfl, hbx, ex⟩ := HX0.out k x hgx
              have EX := hide ex; clear ex hgx
              go_wp2_with (first | (at_builtin; refine appm_str rfl _ _ rfl rfl HO8.out (ys := I2) rfl O2.out.rd (by omega) (by first | (simp; omega) | omega) ?_; intro v3 w9 ho3 hg3 hv3; have hb3 := below_own HB8.out HO8.out.2 hg3 (by omega) (by first | (simp; omega) | omega); have hb4 := below_own HBB8.out HO8.out.2 hg3 (Nat.le_refl _) (by first | (simp; omega) | omega); have hs9 := hb4.size; have HO3 := hide ho3; have HB3 := hide hb3; have HB4 := hide hb4; clear ho3 hb3 hb4 hg3 hv3; have dx := (HB4.out.cell hbx).trans EX.out) | (at_builtin; refine app1_str (n := x) rfl _ _ rfl rfl HO3.out (by first | rfl | simp) (by rw [List.length_append]; omega) hs9 ?_; intro v4 w10 ho4 hg4 hv4; have hb5 := below_own HB3.out HO3.out.2 hg4 (by omega) (by omega); have hb6 := below_own HB4.out HO3.out.2 hg4 (Nat.le_refl _) hs9; have HO4 := hide ho4; have HB5 := hide hb5; have HB6 := hide hb6; clear ho4 hb5 hb6 hg4 hv4))
              go_roundw
              case rel => exact ⟨k + 1, L ++ I2 ++ [x], by omega, by go_num, HNX2.out, (HSH.out.app HI2.out).app (by intro y hy; simp at hy; rw [hy]; exact HSX.out), HO4.out, HB5.out, HB6.out⟩
              case measure => simp [intOf]; omega
            · have HNX2 := hide (show mrgTo ls A B (k + 1) = some (L ++ I2) by rw [HNX.out, List.getElem?_eq_none (by omega)]; simp)
              go_wp2_with (first | (at_builtin; refine appm_str rfl _ _ rfl rfl HO8.out (ys := I2) rfl O2.out.rd (by omega) (by first | (simp; omega) | omega) ?_; intro v3 w9 ho3 hg3 hv3; have hb3 := below_own HB8.out HO8.out.2 hg3 (by omega) (by first | (simp; omega) | omega); have hb4 := below_own HBB8.out HO8.out.2 hg3 (Nat.le_refl _) (by first | (simp; omega) | omega); have hs9 := hb4.size; have HO3 := hide ho3; have HB3 := hide hb3; have HB4 := hide hb4; clear ho3 hb3 hb4 hg3 hv3))
              go_roundw
              case rel => exact ⟨k + 1, L ++ I2, by omega, by go_num, HNX2.out, HSH.out.app HI2.out, HO3.out, HB3.out, HB4.out⟩
              case measure => simp [intOf]; omega
          · have HNX2 := hide (show mrgTo ls A B (k + 1) = some (L ++ I2) by rw [HNX.out]; simp)
            by_cases hkl3 : (k : Int) < (ls.length : Int)
            all_goals
              go_wp2_with (first | (at_builtin; refine appm_str rfl _ _ rfl rfl HO8.out (ys := I2) rfl O2.out.rd (by omega) (by first | (simp; omega) | omega) ?_; intro v3 w9 ho3 hg3 hv3; have hb3 := below_own HB8.out HO8.out.2 hg3 (by omega) (by first | (simp; omega) | omega); have hb4 := below_own HBB8.out HO8.out.2 hg3 (Nat.le_refl _) (by first | (simp; omega) | omega); have hs9 := hb4.size; have HO3 := hide ho3; have HB3 := hide hb3; have HB4 := hide hb4; clear ho3 hb3 hb4 hg3 hv3))
              go_roundw
              case rel => exact ⟨k + 1, L ++ I2, by omega, by go_num, HNX2.out, HSH.out.app HI2.out, HO3.out, HB3.out, HB4.out⟩
              case measure => simp [intOf]; omega
        · have HNX2 := hide (show mrgTo ls A B (k + 1) = some (L ++ I2) by rw [HNX.out]; simp)
          by_cases hkl3 : (k : Int) < (ls.length : Int)
          all_goals
            go_wp2_with (first | (at_builtin; refine appm_str rfl _ _ rfl rfl HO8.out (ys := I2) rfl O2.out.rd (by omega) (by omega) ?_; intro v3 w9 ho3 hg3 hv3; have hb3 := below_own HB8.out HO8.out.2 hg3 (by omega) (by omega); have hb4 := below_own HBB8.out HO8.out.2 hg3 (Nat.le_refl _) (by omega); have HO3 := hide ho3; have HB3 := hide hb3; have HB4 := hide hb4; clear ho3 hb3 hb4 hg3 hv3))
            go_roundw
            case rel => exact ⟨k + 1, L ++ I2, by omega, by go_num, HNX2.out, HSH.out.app HI2.out, HO3.out, HB3.out, HB4.out⟩
            case measure => simp [intOf]; omega
      · by_cases h2 : I2 = []
        · have HNX := hide (HSTEP.out (fun h => h.2.1 h2))
          have hg1 : (0 : Int) < (I1.length : Int) := by have := List.length_pos_iff.2 h1; omega
          have hz1 : ((I1.length : Int) == 0) = false := by simp; exact h1
          have HNX3 := hide (show mrgTo ls A B (k + 1) = some (L ++ (I1 ++ if D1 || D2 then [] else ls[k]?.toList)) by rw [HNX.out, if_neg h1])
          subst h2
          clear h1
          cases D1
          · cases D2
            · by_cases hkl3 : (k : Int) < (ls.length : Int)
              · obtain ⟨x, hgx⟩ : ∃ x, ls[k]? = some x := ⟨_, List.getElem?_eq_getElem (show k < ls.length by omega)⟩
                have HNX2 := hide (show mrgTo ls A B (k + 1) = some (L ++ I1 ++ [x]) by rw [HNX3.out, hgx]; simp)
                have HSX := hide (HS0.out x (List.mem_of_getElem? hgx))
                obtain ⟨bx, ox, rfl, hbx, ex⟩ := HX0.out k x hgx
                have EX := hide ex; clear ex hgx
                go_wp2_with (first | (at_builtin; refine appm_str rfl _ _ rfl rfl HO8.out (ys := I1) rfl O18.out.rd (by omega) (by first | (simp; omega) | omega) ?_; intro v3 w9 ho3 hg3 hv3; have hb3 := below_own HB8.out HO8.out.2 hg3 (by omega) (by first | (simp; omega) | omega); have hb4 := below_own HBB8.out HO8.out.2 hg3 (Nat.le_refl _) (by first | (simp; omega) | omega); have hs9 := hb4.size; have HO3 := hide ho3; have HB3 := hide hb3; have HB4 := hide hb4; clear ho3 hb3 hb4 hg3 hv3; have dx := (HB4.out.cell hbx).trans EX.out) | (at_builtin; refine app1_str (n := x) rfl _ _ rfl rfl HO3.out (by first | rfl | simp) (by rw [List.length_append]; omega) hs9 ?_; intro v4 w10 ho4 hg4 hv4; have hb5 := below_own HB3.out HO3.out.2 hg4 (by omega) (by omega); have hb6 := below_own HB4.out HO3.out.2 hg4 (Nat.le_refl _) hs9; have HO4 := hide ho4; have HB5 := hide hb5; have HB6 := hide hb6; clear ho4 hb5 hb6 hg4 hv4))
                go_roundw
                case rel => exact ⟨k + 1, L ++ I1 ++ [x], by omega, by go_num, HNX2.out, (HSH.out.app HI1.out).app (by intro y hy; simp at hy; rw [hy]; exact HSX.out), HO4.out, HB5.out, HB6.out⟩
                case measure => simp [intOf]; omega
              · have HNX2 := hide (show mrgTo ls A B (k + 1) = some (L ++ I1) by rw [HNX3.out, List.getElem?_eq_none (by omega)]; simp)
                go_wp2_with (first | (at_builtin; refine appm_str rfl _ _ rfl rfl HO8.out (ys := I1) rfl O18.out.rd (by omega) (by first | (simp; omega) | omega) ?_; intro v3 w9 ho3 hg3 hv3; have hb3 := below_own HB8.out HO8.out.2 hg3 (by omega) (by first | (simp; omega) | omega); have hb4 := below_own HBB8.out HO8.out.2 hg3 (Nat.le_refl _) (by first | (simp; omega) | omega); have hs9 := hb4.size; have HO3 := hide ho3; have HB3 := hide hb3; have HB4 := hide hb4; clear ho3 hb3 hb4 hg3 hv3))
                go_roundw
                case rel => exact ⟨k + 1, L ++ I1, by omega, by go_num, HNX2.out, HSH.out.app HI1.out, HO3.out, HB3.out, HB4.out⟩
                case measure => simp [intOf]; omega
            · have HNX2 := hide (show mrgTo ls A B (k + 1) = some (L ++ I1) by rw [HNX3.out]; simp)
              by_cases hkl3 : (k : Int) < (ls.length : Int)
              all_goals
                go_wp2_with (first | (at_builtin; refine appm_str rfl _ _ rfl rfl HO8.out (ys := I1) rfl O18.out.rd (by omega) (by first | (simp; omega) | omega) ?_; intro v3 w9 ho3 hg3 hv3; have hb3 := below_own HB8.out HO8.out.2 hg3 (by omega) (by first | (simp; omega) | omega); have hb4 := below_own HBB8.out HO8.out.2 hg3 (Nat.le_refl _) (by first | (simp; omega) | omega); have hs9 := hb4.size; have HO3 := hide ho3; have HB3 := hide hb3; have HB4 := hide hb4; clear ho3 hb3 hb4 hg3 hv3))
                go_roundw
                case rel => exact ⟨k + 1, L ++ I1, by omega, by go_num, HNX2.out, HSH.out.app HI1.out, HO3.out, HB3.out, HB4.out⟩
                case measure => simp [intOf]; omega
          · have HNX2 := hide (show mrgTo ls A B (k + 1) = some (L ++ I1) by rw [HNX3.out]; simp)
            by_cases hkl3 : (k : Int) < (ls.length : Int)
            all_goals
              go_wp2_with (first | (at_builtin; refine appm_str rfl _ _ rfl rfl HO8.out (ys := I1) rfl O18.out.rd (by omega) (by omega) ?_; intro v3 w9 ho3 hg3 hv3; have hb3 := below_own HB8.out HO8.out.2 hg3 (by omega) (by omega); have hb4 := below_own HBB8.out HO8.out.2 hg3 (Nat.le_refl _) (by omega); have HO3 := hide ho3; have HB3 := hide hb3; have HB4 := hide hb4; clear ho3 hb3 hb4 hg3 hv3))
              go_roundw
              case rel => exact ⟨k + 1, L ++ I1, by omega, by go_num, HNX2.out, HSH.out.app HI1.out, HO3.out, HB3.out, HB4.out⟩
              case measure => simp [intOf]; omega
        · have hg1 : (0 : Int) < (I1.length : Int) := by have := List.length_pos_iff.2 h1; omega
          have hg2 : (0 : Int) < (I2.length : Int) := by have := List.length_pos_iff.2 h2; omega
          by_cases h3 : I1 = I2
          · have HNX := hide (HSTEP.out (fun h => h.2.2 h3))
            subst h3
            have hz1 : ((I1.length : Int) == 0) = false := by simp; exact h1
            have HNX3 := hide (show mrgTo ls A B (k + 1) = some (L ++ (I1 ++ if D1 || D2 then [] else ls[k]?.toList)) by rw [HNX.out, if_neg h1])
            clear h1 h2
            cases D1
            · cases D2
              · by_cases hkl3 : (k : Int) < (ls.length : Int)
                · obtain ⟨x, hgx⟩ : ∃ x, ls[k]? = some x := ⟨_, List.getElem?_eq_getElem (show k < ls.length by omega)⟩
                  have HNX2 := hide (show mrgTo ls A B (k + 1) = some (L ++ I1 ++ [x]) by rw [HNX3.out, hgx]; simp)
                  have HSX := hide (HS0.out x (List.mem_of_getElem? hgx))
                  obtain ⟨bx, ox, rfl, hbx, ex⟩ := HX0.out k x hgx
                  have EX := hide ex; clear ex hgx
                  go_wp2_with (first | (go_at_call 45; refine (c_l32Same _ _ I1 I1 _ O18.out.rd O2.out.rd).mono ?_; rintro e w' ⟨rfl, nq, rfl⟩; rw [decide_eq_true rfl]; have HO8 := hide (show OwS 9 (w8.drewN nq) w6.heap.size _ L from HO8.out); have HB8 := hide (below_drewN HB8.out nq); have HBB8 := hide (below_drewN HBB8.out nq)) | (at_builtin; refine appm_str rfl _ _ rfl rfl HO8.out (ys := I1) rfl (show RdS (w8.drewN nq) _ _ from O18.out.rd) (by omega) (by first | (simp; omega) | omega) ?_; intro v3 w9 ho3 hg3 hv3; have hb3 := below_own HB8.out HO8.out.2 hg3 (by omega) (by first | (simp; omega) | omega); have hb4 := below_own HBB8.out HO8.out.2 hg3 (Nat.le_refl _) (by first | (simp; omega) | omega); have hs9 := hb4.size; have HO3 := hide ho3; have HB3 := hide hb3; have HB4 := hide hb4; clear ho3 hb3 hb4 hg3 hv3; have dx := (HB4.out.cell hbx).trans EX.out) | (at_builtin; refine app1_str (n := x) rfl _ _ rfl rfl HO3.out (by first | rfl | simp) (by rw [List.length_append]; omega) hs9 ?_; intro v4 w10 ho4 hg4 hv4; have hb5 := below_own HB3.out HO3.out.2 hg4 (by omega) (by omega); have hb6 := below_own HB4.out HO3.out.2 hg4 (Nat.le_refl _) hs9; have HO4 := hide ho4; have HB5 := hide hb5; have HB6 := hide hb6; clear ho4 hb5 hb6 hg4 hv4))
                  go_roundw
                  case rel => exact ⟨k + 1, L ++ I1 ++ [x], by omega, by go_num, HNX2.out, (HSH.out.app HI1.out).app (by intro y hy; simp at hy; rw [hy]; exact HSX.out), HO4.out, HB5.out, HB6.out⟩
                  case measure => simp [intOf]; omega
                · have HNX2 := hide (show mrgTo ls A B (k + 1) = some (L ++ I1) by rw [HNX3.out, List.getElem?_eq_none (by omega)]; simp)
                  go_wp2_with (first | (go_at_call 45; refine (c_l32Same _ _ I1 I1 _ O18.out.rd O2.out.rd).mono ?_; rintro e w' ⟨rfl, nq, rfl⟩; rw [decide_eq_true rfl]; have HO8 := hide (show OwS 9 (w8.drewN nq) w6.heap.size _ L from HO8.out); have HB8 := hide (below_drewN HB8.out nq); have HBB8 := hide (below_drewN HBB8.out nq)) | (at_builtin; refine appm_str rfl _ _ rfl rfl HO8.out (ys := I1) rfl (show RdS (w8.drewN nq) _ _ from O18.out.rd) (by omega) (by first | (simp; omega) | omega) ?_; intro v3 w9 ho3 hg3 hv3; have hb3 := below_own HB8.out HO8.out.2 hg3 (by omega) (by first | (simp; omega) | omega); have hb4 := below_own HBB8.out HO8.out.2 hg3 (Nat.le_refl _) (by first | (simp; omega) | omega); have hs9 := hb4.size; have HO3 := hide ho3; have HB3 := hide hb3; have HB4 := hide hb4; clear ho3 hb3 hb4 hg3 hv3))
                  go_roundw
                  case rel => exact ⟨k + 1, L ++ I1, by omega, by go_num, HNX2.out, HSH.out.app HI1.out, HO3.out, HB3.out, HB4.out⟩
                  case measure => simp [intOf]; omega
              · have HNX2 := hide (show mrgTo ls A B (k + 1) = some (L ++ I1) by rw [HNX3.out]; simp)
                by_cases hkl3 : (k : Int) < (ls.length : Int)
                all_goals
                  go_wp2_with (first | (go_at_call 45; refine (c_l32Same _ _ I1 I1 _ O18.out.rd O2.out.rd).mono ?_; rintro e w' ⟨rfl, nq, rfl⟩; rw [decide_eq_true rfl]; have HO8 := hide (show OwS 9 (w8.drewN nq) w6.heap.size _ L from HO8.out); have HB8 := hide (below_drewN HB8.out nq); have HBB8 := hide (below_drewN HBB8.out nq)) | (at_builtin; refine appm_str rfl _ _ rfl rfl HO8.out (ys := I1) rfl (show RdS (w8.drewN nq) _ _ from O18.out.rd) (by omega) (by first | (simp; omega) | omega) ?_; intro v3 w9 ho3 hg3 hv3; have hb3 := below_own HB8.out HO8.out.2 hg3 (by omega) (by first | (simp; omega) | omega); have hb4 := below_own HBB8.out HO8.out.2 hg3 (Nat.le_refl _) (by first | (simp; omega) | omega); have hs9 := hb4.size; have HO3 := hide ho3; have HB3 := hide hb3; have HB4 := hide hb4; clear ho3 hb3 hb4 hg3 hv3))
                  go_roundw
                  case rel => exact ⟨k + 1, L ++ I1, by omega, by go_num, HNX2.out, HSH.out.app HI1.out, HO3.out, HB3.out, HB4.out⟩
                  case measure => simp [intOf]; omega
            · have HNX2 := hide (show mrgTo ls A B (k + 1) = some (L ++ I1) by rw [HNX3.out]; simp)
              by_cases hkl3 : (k : Int) < (ls.length : Int)
              all_goals
                go_wp2_with (first | (go_at_call 45; refine (c_l32Same _ _ I1 I1 _ O18.out.rd O2.out.rd).mono ?_; rintro e w' ⟨rfl, nq, rfl⟩; rw [decide_eq_true rfl]; have HO8 := hide (show OwS 9 (w8.drewN nq) w6.heap.size _ L from HO8.out); have HB8 := hide (below_drewN HB8.out nq); have HBB8 := hide (below_drewN HBB8.out nq)) | (at_builtin; refine appm_str rfl _ _ rfl rfl HO8.out (ys := I1) rfl (show RdS (w8.drewN nq) _ _ from O18.out.rd) (by omega) (by first | (simp; omega) | omega) ?_; intro v3 w9 ho3 hg3 hv3; have hb3 := below_own HB8.out HO8.out.2 hg3 (by omega) (by first | (simp; omega) | omega); have hb4 := below_own HBB8.out HO8.out.2 hg3 (Nat.le_refl _) (by first | (simp; omega) | omega); have hs9 := hb4.size; have HO3 := hide ho3; have HB3 := hide hb3; have HB4 := hide hb4; clear ho3 hb3 hb4 hg3 hv3))
                go_roundw
                case rel => exact ⟨k + 1, L ++ I1, by omega, by go_num, HNX2.out, HSH.out.app HI1.out, HO3.out, HB3.out, HB4.out⟩
                case measure => simp [intOf]; omega
          · have HP := hide (show P = (mkS [], 6) by rw [HF.out, HSTOP.out h1 h2 h3])
            have h3d := decide_eq_false h3
            have HN := hide h3d
            clear h1 h2 h3 h3d
            go_wp2_with (go_at_call 45; refine (c_l32Same _ _ I1 I2 _ O18.out.rd O2.out.rd).mono ?_; rintro e w' ⟨rfl, nq, rfl⟩; rw [HN.out])
            go_ret2
            exact ⟨by rw [HP.out]; rfl, below_drewN HB8.out _⟩
    · have hkl := hide (show k = ls.length + 1 by omega)
      have hlt3 : ¬ (k : Int) ≤ (ls.length : Int) := by omega
      have hP := hide (show P = joinF L by rw [HF.out, ← hkl.out, HM.out])
      go_wp2_with fail
      refine (c_l32Join _ L _ HO.out.rd HSH.out).mono ?_; rintro e w' ⟨rfl, hbj⟩
      have HBJ := hide (bthen HB.out HB.out.size hbj); clear hbj
      go_wp2
      go_ret2
      exact ⟨by rw [hP.out]; rfl, HBJ.out⟩
theorem c_iMerge (s a b : ByteArray) (w : World) (hs : s.size ≤ 1048576) (ha : a.size ≤ 1048576) (hb : b.size ≤ 1048576) :
    Calls Tryd.prog 9 #[.string s, .string a, .string b] w fun e w' => e = .returned (.tuple #[.string (mergeF s a b).1, .int .i64 (mergeF s a b).2]) ∧ Below w.heap.size w w' := by
  cases h : (textB s && textB a && textB b)
  · rw [mergeF_bad h]; exact c_iMerge_bad s a b w hs ha hb h
  · simp only [Bool.and_eq_true] at h
    exact c_iMerge_ok s a b w hs ha hb h.1.1 h.1.2 h.2
theorem c_sMerge (s a b : ByteArray) (w : World) (hs : s.size ≤ 1048576) (ha : a.size ≤ 1048576) (hb : b.size ≤ 1048576) :
    Calls Tryd.prog 10 #[.string s, .string a, .string b] w fun e w' => e = .returned (.tuple #[.string (mergeF s a b).1, .int .i64 (mergeF s a b).2]) ∧ Below w.heap.size w w' := by
  cases h : (textB s && textB a && textB b)
  · rw [mergeF_bad h]; exact c_sMerge_bad s a b w hs ha hb h
  · simp only [Bool.and_eq_true] at h
    exact c_sMerge_ok s a b w hs ha hb h.1.1 h.1.2 h.2
end
open Go.RowKit
theorem cs_Mrg (s a b : ByteArray) (p : ByteArray × Int) (w : World) (hs : s.size ≤ 1048576) (ha : a.size ≤ 1048576) (hb : b.size ≤ 1048576) (hp : mergeF s a b = p) :
    Calls Tryd.prog 10 #[.string s, .string a, .string b] w fun e w' => e = .returned (.tuple #[.string p.1, .int .i64 p.2]) ∧ Below w.heap.size w w' := by
  subst hp; exact c_sMerge s a b w hs ha hb
theorem ci_Mrg (s a b : ByteArray) (p : ByteArray × Int) (w : World) (hs : s.size ≤ 1048576) (ha : a.size ≤ 1048576) (hb : b.size ≤ 1048576) (hp : mergeF s a b = p) :
    Calls Tryd.prog 9 #[.string s, .string a, .string b] w fun e w' => e = .returned (.tuple #[.string p.1, .int .i64 p.2]) ∧ Below w.heap.size w w' := by
  subst hp; exact c_iMerge s a b w hs ha hb
set_option maxHeartbeats 1000000 in
theorem law_MergeTexts (s a b : ByteArray) (w : World) : Calls Tryd.prog 4 #[.string s, .string a, .string b] w fun e w' => e = .returned (.bool true) ∧ Below w.heap.size w w' := by
  by_cases hs : s.size ≤ 1048576
  · by_cases ha : a.size ≤ 1048576
    · by_cases hb : b.size ≤ 1048576
      · obtain ⟨p, hp⟩ : ∃ p, mergeF s a b = p := ⟨_, rfl⟩
        have HP := hide hp; clear hp
        go_enter Tryd.func4, Tryd.ntmps4
        go_wp2_with fail
        refine (cs_Mrg s a b p _ hs ha hb HP.out).mono ?_; rintro e w1 ⟨rfl, hb1⟩
        have HB1 := hide hb1; clear hb1
        go_wp2_with fail
        refine (ci_Mrg s a b p _ hs ha hb HP.out).mono ?_; rintro e w2 ⟨rfl, hb2⟩
        have HB2 := hide (bthen HB1.out HB1.out.size hb2); clear hb2
        go_wp2
        go_ret
        exact ⟨rfl, HB2.out⟩
      · go_enter Tryd.func4, Tryd.ntmps4
        go_wp2
        go_ret
        exact ⟨rfl, Below.refl _ _⟩
    · go_enter Tryd.func4, Tryd.ntmps4
      go_wp2
      go_ret
      exact ⟨rfl, Below.refl _ _⟩
  · go_enter Tryd.func4, Tryd.ntmps4
    go_wp2
    go_ret
    exact ⟨rfl, Below.refl _ _⟩
end Go.Proofs.YtpmflkoepnanoaaDoor
