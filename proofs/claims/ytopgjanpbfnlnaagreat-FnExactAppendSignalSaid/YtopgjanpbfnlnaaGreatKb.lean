/- Contract: AppendSignal of the other side. -/
import Derived.Test.YtopgjanpbfnlnaaGreatKa
import Derived.Test.YtopgjanpbfnlnaaGreatJk
import Derived.Deep.RegionHeld3
namespace Go.Proofs.YtopgjanpbfnlnaaGreat
open Go.RowKit
set_option maxHeartbeats 1600000 in
set_option maxRecDepth 100000 in
theorem c_sAppendSignal (s : ByteArray) (v : Value) (xs : List Int) (w : World) (hs : s.size ≤ 1048576) (hr : RdI w v xs) (hxn : xs.length ≤ 1048576) : Calls Tryz.prog 18 #[.string s, v] w (StR (apdF s xs) w) := by
  have HR := hide hr
  obtain ⟨A0, cap0, rfl, hl0, hc0, _⟩ := hr.open_
  clear hr
  cases hsg : sigB xs
  · have HE := hide (apd1 (s := s) hsg)
    go_enter Tryz.func18, Tryz.ntmps18
    go_wp2_with (go_at_call 37; refine (c_l03Ok _ xs _ HR.out).mono ?_; rintro e w' ⟨rfl, rfl⟩)
    go_ret2
    exact StR.mk HE.out (Below.refl _ _)
  · have HSS := hide (sigB_true.1 hsg).2
    obtain ⟨ps, c, hp⟩ : ∃ ps c, placesF s = (ps, c) := ⟨_, _, rfl⟩
    by_cases hc : c = 0
    · subst hc
      obtain ⟨t, rfl, HO⟩ := opn_of hp hs
      have HPL := hide (fun w => places_ok hp w (by omega))
      have hlen : (t.map (fun (n : Nat) => (n : Int))).length = cntF s + 1 := by rw [List.length_map]; exact HO.len
      have hcnt := HO.cnt
      have hf1 := HO.f1; have hf2 := HO.f2; have hn4 := HO.n4
      by_cases hfull : 4000 < numS s 6 + xs.length
      · have HE := hide (apd3 hsg hp hfull)
        clear HO hp
        generalize cntF s = C at *
        generalize numS s 6 = N at *
        generalize numS s 4 = f at *
        have ht : (4000 : Int) < (N : Int) + (xs.length : Int) := by omega
        go_enter Tryz.func18, Tryz.ntmps18
        go_wp2_with (go_at_call 37; refine (c_l03Ok _ xs _ HR.out).mono ?_; rintro e w' ⟨rfl, rfl⟩)
        refine (HPL.out _).mono ?_; rintro e w1 ⟨v1, rfl, ho1, hb1⟩
        obtain ⟨A, cap, rfl, _, _, _⟩ := ho1.rd.open_
        have HB1 := hide hb1; clear hb1 ho1
        go_wp2
        go_ret2
        exact StR.mk HE.out HB1.out
      · have htf : ¬ (4000 : Int) < (numS s 6 : Nat) + (xs.length : Int) := by omega
        obtain ⟨rs, c, hrk⟩ : ∃ rs c, restK s = (rs, c) := ⟨_, _, rfl⟩
        have hEerr := hide (fun hc => apd4 (xs := xs) hsg hp hfull hrk (c := c) hc)
        have hEok := hide (fun (hc : c = 0) => apd5 (xs := xs) hsg hp hfull (rs := rs) (by rw [hrk, hc]))
        have hrsm : ∀ x ∈ rs, Smp x := by have := restK_smp s; rw [hrk] at this; exact this
        have HSM := hide (show ∀ x ∈ rs ++ xs, Smp x from fun x hx => by rcases List.mem_append.1 hx with h | h; exact hrsm x h; exact HSS.out x h)
        have HAS := hide (show apdS s xs = headS (numS s 4) (numS s 6 + xs.length) ++ s.extract 10 (plc s (numS s 6 / numS s 4)) ++ bodyTo (rs ++ xs) (numS s 4) (nch (rs ++ xs).length (numS s 4)) by unfold apdS allL; rw [hrk])
        have hhz := size_headS (numS s 4) (numS s 6 + xs.length)
        have HRL := hide (fun (hc : c = 0) => restK_len HO (rs := rs) (by rw [hrk, hc]))
        have er : ((numS s 6 : Nat) : Int) % ((numS s 4 : Nat) : Int) = ((numS s 6 % numS s 4 : Nat) : Int) := by simp
        by_cases hrem : numS s 6 % numS s 4 = 0
        · have hCK : cntF s = numS s 6 / numS s 4 := nch_rem0 hf1 hrem
          have hrk0 : restK s = ([], 0) := by unfold restK; rw [if_pos hrem]
          rw [hrk0] at hrk
          injection hrk with h1 h2
          subst h1 h2
          have HE := hide (hEok.out rfl)
          have hbdP := HO.bd (numS s 6 / numS s 4) (by omega)
          have HC1 := hide (fun (w : World) A l cap h => HO.cell1 (j := numS s 6 / numS s 4) (by omega) (w := w) (A := A) (l := l) (cap := cap) h)
          have hzx : (s.extract 10 (plc s (numS s 6 / numS s 4))).size ≤ 1048576 := by rw [ByteArray.size_extract]; omega
          rw [hrem] at er
          clear HO hp hEerr hEok HRL hrsm hrk0 hrem
          generalize hP : plc s (numS s 6 / numS s 4) = P at *
          clear hP
          generalize numS s 6 / numS s 4 = K at *
          generalize hC : cntF s = C at *
          obtain rfl : K = C := hCK.symm
          clear hC
          generalize numS s 6 = N at *
          generalize numS s 4 = f at *
          generalize hM : N + xs.length = M at *
          have eM : (N : Int) + (xs.length : Int) = (M : Int) := by omega
          have htm : ¬ (4000 : Int) < (M : Int) := by omega
          have aM : IntKind.i64.wrap (M : Int) = (M : Int) := IntWalk.i64_in _ (by omega)
          have HM := hide hM; clear hM htf
          generalize hh1 : headS f M = h1 at *
          have HHD := hide hh1; clear hh1
          generalize hx1 : s.extract 10 P = x1 at *
          have hz1 : h1.size + x1.size ≤ 9223372036854775807 := by omega
          have a2 : (10 : Int) ≤ (P : Int) := by omega
          have a3 : (P : Int) ≤ (s.size : Int) := by omega
          have a1 : (K : Int) < (K : Int) + 1 := by omega
          generalize hrse : ([] : List Int) = rs at *
          have HRSE := hide hrse; clear hrse
          have hrl : rs.length ≤ N := by rw [← HRSE.out]; simp
          have hxm : xs.length ≤ M := by have := HM.out; omega
          have hal2 : rs.length + xs.length ≤ 17592186044416 := by omega
          go_enter Tryz.func18, Tryz.ntmps18
          go_wp2_with (go_at_call 37; refine (c_l03Ok _ xs _ HR.out).mono ?_; rintro e w' ⟨rfl, rfl⟩)
          refine (HPL.out _).mono ?_; rintro e w1 ⟨v1, rfl, ho1, hb1⟩
          obtain ⟨A, cap, rfl, _, _, _⟩ := ho1.rd.open_
          rw [hlen] at ho1 ⊢
          have HB1 := hide hb1; have HP1 := hide ho1; clear hb1 ho1
          have hs1 := HB1.out.size
          have hal0 := (Below.refl w1.heap.size w1).alloc (Nat.le_refl _) (.cells #[] 2)
          have HBX := hide (HB1.out.trans (hal0.mono hs1))
          have HPX := hide (own_all HP1.out hal0)
          have HRR := hide (show RdI (w1.alloc (.cells #[] 2)) (.slice (some ⟨w1.heap.size, 0, none⟩) 0 0) rs by rw [← HRSE.out]; exact (new_i64 w1).rd)
          clear hal0
          go_wp2_with fail
          refine (c_l00Own _ rs _ HRR.out (by omega)).mono ?_; rintro e w5 ⟨v5, rfl, ho5, hb5⟩
          have HB5 := hide (bthen HBX.out HBX.out.size hb5)
          have HO5 : Sec (OwI 2 w5 w.heap.size v5 rs) := hide (ho5.more HBX.out.size)
          have HDJ5 := hide (show Dj (.slice A (K + 1) cap) v5 from fun b h1 h2 => by have := (HPX.out.lt b h1).2; have := (ho5.lt b h2).1; omega)
          have HP5 : Sec (OwI 2 w5 w.heap.size (.slice A (K + 1) cap) _) := hide (own_all HPX.out hb5)
          have hs5 := HB5.out.size
          have HXR := hide (HR.out.below HB5.out)
          clear ho5 hb5
          go_wp2_with (at_builtin; refine appm_i64 rfl _ _ rfl rfl HO5.out rfl HXR.out hal2 hs5 ?_; intro v6 w6 ho6 hg6 hv6; generalize hal : rs ++ xs = al at *; obtain ⟨A6, cap6, rfl, hl6, hc6, hx6⟩ := ho6.rd.open_; have hb6 := below_own HB5.out HO5.out hg6 (Nat.le_refl _) hs5; have HO6 := hide ho6; have HB6 := hide hb6; have HX6 := hide hx6; have hs6 : w.heap.size ≤ w6.heap.size := hb6.size; have HP6 := hide (HP5.out.gro hg6 HDJ5.out); have HALL := hide hal; clear ho6 hb6 hx6 hg6 hv6 hal)
          have hall : al.length ≤ 8000 := by rw [← HALL.out, List.length_append]; omega
          obtain ⟨b, off, rfl, hbw, ca, _⟩ := HC1.out _ _ _ _ HP6.out.rd
          go_region_held (fun w' => w'.cell? ⟨b, off + K, none⟩ = some (.int .i64 (P : Int))) (first | go_keep | (refine (hb7.cell ?_).trans ?_ <;> first | assumption | (simp [*]; done) | (simp; omega))) (first | (go_at_call 47; refine (c_l30Head M f _ (by omega) (by omega)).mono ?_; rw [HHD.out]; rintro e w7 ⟨rfl, hb7⟩))
          have HB7 := hide (bthen HB6.out hs6 (undrew hb7))
          have HA7 : Sec (OwI 2 w7 w.heap.size (.slice A6 al.length cap6) al) := hide (own_all HO6.out (undrew hb7))
          have hs7 : w6.heap.size ≤ w7.heap.size := (undrew hb7).size
          have HX7 := hide (fun k x hk => by obtain ⟨b, off, h1, h2, h3⟩ := HX6.out k x hk; exact (⟨b, off, h1⟩ : ∃ b off, A6 = some ⟨b, off, none⟩))
          clear hb7 ca hbw
          generalize hdd : h1 ++ x1 = hd at *
          have HDD := hide hdd; clear hdd
          have hhd : hd.size ≤ 2000000 := by rw [← HDD.out, ByteArray.size_append]; omega
          go_wp2_with fail
          go_loopw [15, 16] (fun t i wr => ∃ j fr : Nat, Sec (j * f = fr) ∧ fr < al.length + f ∧ i = .int .i64 (fr : Int) ∧ t = .string (hd ++ bodyTo al f j) ∧ Below w7.heap.size w7 wr) (fun _ i _ => al.length - (intOf i).toNat)
          case atStart => exact ⟨0, 0, ⟨by simp⟩, by omega, rfl, by rw [show bodyTo al f 0 = ByteArray.empty from rfl, ByteArray.append_empty], Below.refl _ _⟩
          case round =>
            obtain ⟨j, fr, HJ, hfr, rfl, rfl, hb⟩ := hrel
            have HB := hide hb; have hsz := hb.size; clear hb
            have HRr : Sec (RdI wr (.slice A6 al.length cap6) al) := ⟨HA7.out.rd.below HB.out⟩
            by_cases hlt : fr < al.length
            · obtain ⟨b2, off2, rfl⟩ := HX7.out fr al[fr] (List.getElem?_eq_getElem hlt)
              have hjb : j ≤ fr := by have := HJ.out; have : j * 1 ≤ j * f := Nat.mul_le_mul_left _ (by omega); omega
              have hbt := size_bodyTo HSM.out hf2 j
              have HBT := hide (show bodyTo al f (j + 1) = bodyTo al f j ++ bodyS (chunkL al f fr) by simp only [bodyTo]; rw [HJ.out])
              have HCS := hide (smp_chunk HSM.out f fr)
              have hcl := length_chunk al f fr
              have hbs := size_bodyS HCS.out (by omega)
              obtain ⟨hi, hhi1, hhi2, hhi3⟩ : ∃ hi, fr < hi ∧ hi ≤ al.length ∧ (hi : Int) = min (al.length : Int) ((fr : Int) + (f : Int)) := by
                by_cases h : al.length ≤ fr + f
                · exact ⟨al.length, hlt, Nat.le_refl _, by omega⟩
                · exact ⟨fr + f, by omega, by omega, by omega⟩
              have HCK := hide (show (al.drop fr).take (hi - fr) = chunkL al f fr by
                unfold chunkL
                by_cases h : al.length ≤ fr + f
                · rw [List.take_of_length_le (by rw [List.length_drop]; omega), List.take_of_length_le (by rw [List.length_drop]; omega)]
                · have : hi - fr = f := by omega
                  rw [this])
              have HSUB := hide (RdI.sub HRr.out hhi1 hhi2)
              have HHI := hide hhi3; clear hhi3
              generalize hck : chunkL al f fr = ck at *
              generalize hbo : bodyTo al f j = bo at *
              generalize hbk : bodyS ck = bk at *
              have HCK2 := hide hck; have HBO := hide hbo; have HBK := hide hbk; clear hck hbo hbk
              have hz : (hd ++ bo).size + bk.size ≤ 9223372036854775807 := by rw [ByteArray.size_append]; omega
              have HMIN := hide (show (if (fr : Int) + (f : Int) < (al.length : Int) then (fr : Int) + (f : Int) else (al.length : Int)) = (hi : Int) by rw [HHI.out]; split <;> omega)
              go_wp2_with fail
              refine (c_l00Min _ _ _).mono ?_; rw [HMIN.out]; rintro e w' ⟨rfl, rfl⟩
              go_wp2_with fail
              refine (c_l30Body _ ck _ (by have := HSUB.out; rw [HCK.out] at this; exact this) HCS.out (by omega)).mono ?_; rw [HBK.out]; rintro e w8 ⟨rfl, hb8⟩
              have HB8 := hide (bthen HB.out hsz hb8); clear hb8
              go_wp2
              go_roundw
              case rel => exact ⟨j + 1, fr + f, ⟨by rw [Nat.add_mul, HJ.out]; omega⟩, by omega, by go_num, by rw [HBT.out, ByteArray.append_assoc], HB8.out⟩
              case measure => first | (simp [intOf]; done) | (simp [intOf]; omega)
            · have hj : j = nch al.length f := nch_at (by omega) (by rw [HJ.out]; exact hfr) (by rw [HJ.out]; omega)
              have HJJ := hide hj; clear hj
              go_wp2
              go_ret2
              exact StR.mk (by rw [HE.out, HAS.out, HJJ.out]) (bthen HB7.out (by omega) HB.out)
        · have hCK : cntF s = numS s 6 / numS s 4 + 1 := nch_rem1 hf1 hrem
          have hrk1 : frK s (numS s 6 / numS s 4) = (rs, c) := by rw [← hrk]; unfold restK; rw [if_neg hrem]
          have HLO := hide (fun v w h => sLoad HO (j := numS s 6 / numS s 4) (by omega) v w h)
          rw [hrk1] at HLO
          have hbdP := HO.bd (numS s 6 / numS s 4) (by omega)
          have HC1 := hide (fun (w : World) A l cap h => HO.cell1 (j := numS s 6 / numS s 4) (by omega) (w := w) (A := A) (l := l) (cap := cap) h)
          have hzx : (s.extract 10 (plc s (numS s 6 / numS s 4))).size ≤ 1048576 := by rw [ByteArray.size_extract]; omega
          have htr : (((numS s 6 % numS s 4 : Nat) : Int) != 0) = true := by simp; omega
          clear HO hp hrsm hrk hrk1 hrem
          generalize hP : plc s (numS s 6 / numS s 4) = P at *
          clear hP
          generalize numS s 6 / numS s 4 = K at *
          generalize hC : cntF s = C at *
          subst hCK
          clear hC
          generalize numS s 6 % numS s 4 = rm at *
          generalize numS s 6 = N at *
          generalize numS s 4 = f at *
          generalize hM : N + xs.length = M at *
          have eM : (N : Int) + (xs.length : Int) = (M : Int) := by omega
          have htm : ¬ (4000 : Int) < (M : Int) := by omega
          have aM : IntKind.i64.wrap (M : Int) = (M : Int) := IntWalk.i64_in _ (by omega)
          have HM := hide hM; clear hM htf
          generalize hh1 : headS f M = h1 at *
          have HHD := hide hh1; clear hh1
          generalize hx1 : s.extract 10 P = x1 at *
          have hz1 : h1.size + x1.size ≤ 9223372036854775807 := by omega
          have a2 : (10 : Int) ≤ (P : Int) := by omega
          have a3 : (P : Int) ≤ (s.size : Int) := by omega
          have a1 : (K : Int) < (K : Int) + 1 + 1 := by omega
          by_cases hc0 : c = 0
          · subst hc0
            have HE := hide (hEok.out rfl)
            have hrl := HRL.out rfl
            have hxm : xs.length ≤ M := by have := HM.out; omega
            have hal2 : rs.length + xs.length ≤ 17592186044416 := by omega
            clear hEerr hEok HRL
            go_enter Tryz.func18, Tryz.ntmps18
            go_wp2_with (go_at_call 37; refine (c_l03Ok _ xs _ HR.out).mono ?_; rintro e w' ⟨rfl, rfl⟩)
            refine (HPL.out _).mono ?_; rintro e w1 ⟨v1, rfl, ho1, hb1⟩
            obtain ⟨A, cap, rfl, _, _, _⟩ := ho1.rd.open_
            rw [hlen] at ho1 ⊢
            have HB1 := hide hb1; have HP1 := hide ho1; clear hb1 ho1
            have hs1 := HB1.out.size
            have hal0 := (Below.refl w1.heap.size w1).alloc (Nat.le_refl _) (.cells #[] 2)
            have HBA := hide (HB1.out.trans (hal0.mono hs1))
            have HPA := hide (own_all HP1.out hal0)
            clear hal0
            go_wp2_with fail
            refine (HLO.out _ _ (by exact OwI.rd HPA.out)).mono ?_; rintro e w2 ⟨v2, rfl, ho2, hb2⟩
            have HBX := hide (bthen HBA.out HBA.out.size hb2)
            have HPX := hide (own_all HPA.out hb2)
            have HRR := hide (OwI.rd ho2)
            clear ho2 hb2
            go_wp2_with fail
            refine (c_l00Own _ rs _ HRR.out (by omega)).mono ?_; rintro e w5 ⟨v5, rfl, ho5, hb5⟩
            have HB5 := hide (bthen HBX.out HBX.out.size hb5)
            have HO5 : Sec (OwI 2 w5 w.heap.size v5 rs) := hide (ho5.more HBX.out.size)
            have HDJ5 := hide (show Dj (.slice A (K + 1 + 1) cap) v5 from fun b h1 h2 => by have := (HPX.out.lt b h1).2; have := (ho5.lt b h2).1; omega)
            have HP5 : Sec (OwI 2 w5 w.heap.size (.slice A (K + 1 + 1) cap) _) := hide (own_all HPX.out hb5)
            have hs5 := HB5.out.size
            have HXR := hide (HR.out.below HB5.out)
            clear ho5 hb5
            go_wp2_with (at_builtin; refine appm_i64 rfl _ _ rfl rfl HO5.out rfl HXR.out hal2 hs5 ?_; intro v6 w6 ho6 hg6 hv6; generalize hal : rs ++ xs = al at *; obtain ⟨A6, cap6, rfl, hl6, hc6, hx6⟩ := ho6.rd.open_; have hb6 := below_own HB5.out HO5.out hg6 (Nat.le_refl _) hs5; have HO6 := hide ho6; have HB6 := hide hb6; have HX6 := hide hx6; have hs6 : w.heap.size ≤ w6.heap.size := hb6.size; have HP6 := hide (HP5.out.gro hg6 HDJ5.out); have HALL := hide hal; clear ho6 hb6 hx6 hg6 hv6 hal)
            have hall : al.length ≤ 8000 := by rw [← HALL.out, List.length_append]; omega
            obtain ⟨b, off, rfl, hbw, ca, _⟩ := HC1.out _ _ _ _ HP6.out.rd
            go_region_held (fun w' => w'.cell? ⟨b, off + K, none⟩ = some (.int .i64 (P : Int))) (first | go_keep | (refine (hb7.cell ?_).trans ?_ <;> first | assumption | (simp [*]; done) | (simp; omega))) (first | (go_at_call 47; refine (c_l30Head M f _ (by omega) (by omega)).mono ?_; rw [HHD.out]; rintro e w7 ⟨rfl, hb7⟩))
            have HB7 := hide (bthen HB6.out hs6 (undrew hb7))
            have HA7 : Sec (OwI 2 w7 w.heap.size (.slice A6 al.length cap6) al) := hide (own_all HO6.out (undrew hb7))
            have hs7 : w6.heap.size ≤ w7.heap.size := (undrew hb7).size
            have HX7 := hide (fun k x hk => by obtain ⟨b, off, h1, h2, h3⟩ := HX6.out k x hk; exact (⟨b, off, h1⟩ : ∃ b off, A6 = some ⟨b, off, none⟩))
            clear hb7 ca hbw
            generalize hdd : h1 ++ x1 = hd at *
            have HDD := hide hdd; clear hdd
            have hhd : hd.size ≤ 2000000 := by rw [← HDD.out, ByteArray.size_append]; omega
            go_wp2_with fail
            go_loopw [15, 16] (fun t i wr => ∃ j fr : Nat, Sec (j * f = fr) ∧ fr < al.length + f ∧ i = .int .i64 (fr : Int) ∧ t = .string (hd ++ bodyTo al f j) ∧ Below w7.heap.size w7 wr) (fun _ i _ => al.length - (intOf i).toNat)
            case atStart => exact ⟨0, 0, ⟨by simp⟩, by omega, rfl, by rw [show bodyTo al f 0 = ByteArray.empty from rfl, ByteArray.append_empty], Below.refl _ _⟩
            case round =>
              obtain ⟨j, fr, HJ, hfr, rfl, rfl, hb⟩ := hrel
              have HB := hide hb; have hsz := hb.size; clear hb
              have HRr : Sec (RdI wr (.slice A6 al.length cap6) al) := ⟨HA7.out.rd.below HB.out⟩
              by_cases hlt : fr < al.length
              · obtain ⟨b2, off2, rfl⟩ := HX7.out fr al[fr] (List.getElem?_eq_getElem hlt)
                have hjb : j ≤ fr := by have := HJ.out; have : j * 1 ≤ j * f := Nat.mul_le_mul_left _ (by omega); omega
                have hbt := size_bodyTo HSM.out hf2 j
                have HBT := hide (show bodyTo al f (j + 1) = bodyTo al f j ++ bodyS (chunkL al f fr) by simp only [bodyTo]; rw [HJ.out])
                have HCS := hide (smp_chunk HSM.out f fr)
                have hcl := length_chunk al f fr
                have hbs := size_bodyS HCS.out (by omega)
                obtain ⟨hi, hhi1, hhi2, hhi3⟩ : ∃ hi, fr < hi ∧ hi ≤ al.length ∧ (hi : Int) = min (al.length : Int) ((fr : Int) + (f : Int)) := by
                  by_cases h : al.length ≤ fr + f
                  · exact ⟨al.length, hlt, Nat.le_refl _, by omega⟩
                  · exact ⟨fr + f, by omega, by omega, by omega⟩
                have HCK := hide (show (al.drop fr).take (hi - fr) = chunkL al f fr by
                  unfold chunkL
                  by_cases h : al.length ≤ fr + f
                  · rw [List.take_of_length_le (by rw [List.length_drop]; omega), List.take_of_length_le (by rw [List.length_drop]; omega)]
                  · have : hi - fr = f := by omega
                    rw [this])
                have HSUB := hide (RdI.sub HRr.out hhi1 hhi2)
                have HHI := hide hhi3; clear hhi3
                generalize hck : chunkL al f fr = ck at *
                generalize hbo : bodyTo al f j = bo at *
                generalize hbk : bodyS ck = bk at *
                have HCK2 := hide hck; have HBO := hide hbo; have HBK := hide hbk; clear hck hbo hbk
                have hz : (hd ++ bo).size + bk.size ≤ 9223372036854775807 := by rw [ByteArray.size_append]; omega
                have HMIN := hide (show (if (fr : Int) + (f : Int) < (al.length : Int) then (fr : Int) + (f : Int) else (al.length : Int)) = (hi : Int) by rw [HHI.out]; split <;> omega)
                go_wp2_with fail
                refine (c_l00Min _ _ _).mono ?_; rw [HMIN.out]; rintro e w' ⟨rfl, rfl⟩
                go_wp2_with fail
                refine (c_l30Body _ ck _ (by have := HSUB.out; rw [HCK.out] at this; exact this) HCS.out (by omega)).mono ?_; rw [HBK.out]; rintro e w8 ⟨rfl, hb8⟩
                have HB8 := hide (bthen HB.out hsz hb8); clear hb8
                go_wp2
                go_roundw
                case rel => exact ⟨j + 1, fr + f, ⟨by rw [Nat.add_mul, HJ.out]; omega⟩, by omega, by go_num, by rw [HBT.out, ByteArray.append_assoc], HB8.out⟩
                case measure => first | (simp [intOf]; done) | (simp [intOf]; omega)
              · have hj : j = nch al.length f := nch_at (by omega) (by rw [HJ.out]; exact hfr) (by rw [HJ.out]; omega)
                have HJJ := hide hj; clear hj
                go_wp2
                go_ret2
                exact StR.mk (by rw [HE.out, HAS.out, HJJ.out]) (bthen HB7.out (by omega) HB.out)
          · have HE := hide (hEerr.out hc0)
            have ht : (c != 0) = true := by simpa using hc0
            clear hEerr hEok HRL hc0
            go_enter Tryz.func18, Tryz.ntmps18
            go_wp2_with (go_at_call 37; refine (c_l03Ok _ xs _ HR.out).mono ?_; rintro e w' ⟨rfl, rfl⟩)
            refine (HPL.out _).mono ?_; rintro e w1 ⟨v1, rfl, ho1, hb1⟩
            obtain ⟨A, cap, rfl, _, _, _⟩ := ho1.rd.open_
            rw [hlen] at ho1 ⊢
            have HB1 := hide hb1; have HP1 := hide ho1; clear hb1 ho1
            have hs1 := HB1.out.size
            have hal0 := (Below.refl w1.heap.size w1).alloc (Nat.le_refl _) (.cells #[] 2)
            have HBA := hide (HB1.out.trans (hal0.mono hs1))
            have HPA := hide (own_all HP1.out hal0)
            clear hal0
            go_wp2_with fail
            refine (HLO.out _ _ (by exact OwI.rd HPA.out)).mono ?_; rintro e w2 ⟨v2, rfl, ho2, hb2⟩
            have HBX := hide (bthen HBA.out HBA.out.size hb2)
            clear ho2 hb2
            go_wp2
            go_ret2
            exact StR.mk HE.out HBX.out
    · have HE := hide (apd2 hsg hp hc)
      have HPL := hide (fun w => places_err hp hc w (by omega))
      have ht : (c != 0) = true := by simpa using hc
      clear hp hc
      go_enter Tryz.func18, Tryz.ntmps18
      go_wp2_with (go_at_call 37; refine (c_l03Ok _ xs _ HR.out).mono ?_; rintro e w' ⟨rfl, rfl⟩)
      refine (HPL.out _).mono ?_; rintro e w1 ⟨v1, rfl, hb1⟩
      have HB1 := hide hb1; clear hb1
      go_wp2
      go_ret2
      exact StR.mk HE.out HB1.out
end Go.Proofs.YtopgjanpbfnlnaaGreat
