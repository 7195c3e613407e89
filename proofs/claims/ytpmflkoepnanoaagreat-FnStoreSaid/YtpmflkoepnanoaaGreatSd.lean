/- FnStore: the law. -/
import Derived.Test.YtpmflkoepnanoaaGreatSa
import Derived.Test.YtpmflkoepnanoaaGreatRa
import Derived.Test.YtpmflkoepnanoaaGreatJf
import Derived.Test.YtpmflkoepnanoaaGreatRf
import Derived.Test.YtpmflkoepnanoaaGreatJk
namespace Go.Proofs.YtpmflkoepnanoaaGreat
open Go.RowKit
theorem OwI.dr {E : TypeId} {w w' : World} {B : Nat} {v : Value} {xs : List Int} (h : OwI E w B v xs) (hd : Dr w w') : OwI E w' B v xs := by obtain ⟨n, rfl⟩ := hd; exact h
theorem RdY.dr {w w' : World} {v : Value} {xs : List UInt8} (h : RdY w v xs) (hd : Dr w w') : RdY w' v xs := by obtain ⟨n, rfl⟩ := hd; exact h
theorem own_forms {E : TypeId} {w : World} {B : Nat} {v : Value} {xs : List Int} (h : OwI E w B v xs) : (v = .slice none 0 0 ∧ xs = []) ∨ ∃ g cap, v = .slice (some ⟨g, 0, none⟩) xs.length cap ∧ g < w.heap.size := by
  rcases h.2 with ⟨h1, h2⟩ | ⟨g, cap, cur, rfl, _, hg, _⟩
  · exact .inl ⟨h1, List.eq_nil_of_length_eq_zero h2⟩
  · exact .inr ⟨g, cap, rfl, (Array.getElem?_eq_some_iff.1 hg).1⟩
/-- What is known of a store of few samples. -/
structure Stored (xs : List Int) (f : Nat) (s : ByteArray) : Prop where
  ok : storeF xs (f : Int) = (s, 0)
  load : ldSigF s = (xs, 0)
  info : infoF s = ((xs.length : Int), (f : Int), 0)
  range : ∀ fr n, fr + n ≤ xs.length → ldRngF s (fr : Int) (n : Int) = ((xs.drop fr).take n, 0)
  dmg : dmgF s = ([], 0)
  size : s.size ≤ 1048576
theorem size_store {xs : List Int} {f : Nat} (hs : ∀ x ∈ xs, Smp x) (hn : xs.length ≤ 140) (hf : 16 ≤ f ∧ f ≤ 256) : (storeS xs f).size ≤ 20000 := by
  have h1 := size_bodyTo hs hf.2 (nch xs.length f)
  have h2 : nch xs.length f ≤ 10 := by
    unfold nch
    have := Nat.div_le_div_left (a := xs.length + f - 1) hf.1 (by omega)
    have h3 : (xs.length + f - 1) / f * f ≤ xs.length + f - 1 := Nat.div_mul_le_self _ _
    rcases Nat.lt_or_ge 10 ((xs.length + f - 1) / f) with h | h
    · have : 11 * f ≤ (xs.length + f - 1) / f * f := Nat.mul_le_mul_right f (by omega)
      omega
    · exact h
  have h3 : nch xs.length f * 1672 ≤ 10 * 1672 := Nat.mul_le_mul_right _ h2
  unfold storeS
  rw [ByteArray.size_append, size_headS]
  omega
theorem stored_of {xs : List Int} {f : Nat} (hs : ∀ x ∈ xs, Smp x) (hn : xs.length ≤ 140) (hf : 16 ≤ f ∧ f ≤ 256) : Stored xs f (storeS xs f) := by
  have hp := placesF_g (frs_store hs (by omega) hf)
  have h46 := gS_num (L := frL xs f) (show f < 65536 by omega) (show xs.length < 65536 by omega)
  have hi := infoF_g (L := frL xs f) hf (show xs.length ≤ 4000 by omega)
  rw [← storeS_g] at hp h46 hi
  have hR := fun fr n h => rangeF_store (fr := fr) (n := n) hs (show xs.length ≤ 4000 by omega) hf h
  refine ⟨?_, ?_, hi, ?_, ?_, Nat.le_trans (size_store hs hn hf) (by omega)⟩
  · unfold storeF
    rw [if_pos (sigB_true.2 ⟨by omega, hs⟩), if_pos (inB_true.2 (by omega))]; rfl
  · rw [ldsig2 hp, h46.2, hR 0 xs.length (by omega), List.drop_zero, List.take_length]
  · intro fr n h
    rw [ldrng4 hp (by rw [h46.2, inB_true]; omega) (by rw [h46.2, inB_true]; omega), hR fr n h]
  · rw [dmg2 hp, salvF_store hs (by omega) hf]
set_option maxHeartbeats 2000000 in
set_option maxRecDepth 100000 in
theorem law_Store (v1 v2 : Value) (c1 c2 : List UInt8) (w : World) (h1 : RdY w v1 c1) (h2 : RdY w v2 c2) : Calls Tryz.prog 3 #[v1, v2] w fun e w' => e = .returned (.bool true) ∧ Below w.heap.size w w' := by
  have H1 := hide h1; have H2 := hide h2
  clear h1 h2
  cases hlong : (decide (1048576 < c1.length) || decide (1048576 < c2.length))
  · have hl : c1.length ≤ 1048576 ∧ c2.length ≤ 1048576 := by simpa using hlong
    have HL := hide hlong; clear hlong
    go_enter Tryz.func3, Tryz.ntmps3
    go_wp2_with fail
    refine (c_v8Long _ _ c1 c2 _ H1.out H2.out).mono ?_; rw [HL.out]; rintro e _ ⟨rfl, rfl⟩
    go_wp2_with fail
    refine (c_E8Long _ c1 _ H1.out (by omega)).mono ?_; rintro e w1 ⟨va, xs, rfl, ho, hxs, hxl, hb⟩
    have HA1 := hide ho; have HXS := hide hxs; have HB1 := hide hb; have hs1 := hb.size; have HC1 := hide (H2.out.below hb); clear ho hxs hb
    go_wp2_with fail
    refine (c_E8Long _ c2 _ HC1.out (by omega)).mono ?_; rintro e w2 ⟨vb, ys, rfl, ho, hys, hyl, hb⟩
    have HY2 := hide ho; have HYS := hide hys; have HB2 := hide (bthen HB1.out hs1 hb); have HA2 := hide (own_all HA1.out hb); clear ho hys hb
    have hs2 := HB2.out.size; have HC2 := hide (H2.out.below HB2.out)
    go_wp2_with fail
    refine (c_v8At _ c2 0 30 _ HC2.out (by omega) (by omega) (by omega)).mono ?_; rintro e w3 ⟨x, rfl, hx, hd⟩
    have HB3 := hide (Dr.below HB2.out hd); have HA3 : Sec (OwI 2 w3 w.heap.size va xs) := hide (OwI.dr HA2.out hd); have HY3 := hide (HY2.out.dr hd); have HC3 := hide (H2.out.below HB3.out); have hs3 := HB3.out.size; clear hd
    obtain ⟨f, hf⟩ : ∃ f : Nat, 16 + x = f := ⟨_, rfl⟩
    have ef : (16 : Int) + (x : Int) = (f : Int) := by omega
    have hf1 : 16 ≤ f ∧ f ≤ 256 := by omega
    have hst := stored_of HXS.out (show xs.length ≤ 140 by omega) hf1
    have HST2 := hide (stored_of (xs := xs ++ ys) (f := f) (fun z hz => by rcases List.mem_append.1 hz with h | h; exact HXS.out z h; exact HYS.out z h) (by rw [List.length_append]; omega) hf1).ok
    have HAP := hide (apdF_store (ys := ys) HXS.out HYS.out (by omega) hf1)
    have HSX := hide (sigB_true.2 ⟨show xs.length ≤ 4000 by omega, HXS.out⟩); have HSY := hide (sigB_true.2 ⟨show ys.length ≤ 4000 by omega, HYS.out⟩)
    generalize storeS xs f = s at *
    generalize storeS (xs ++ ys) f = s2 at *
    have hsz := hst.size
    have HST := hide hst; clear hst hf hx
    have KS : Sec (∀ w v, RdI w v xs → Calls Tryz.prog 8 #[v, .int .i64 (f : Int)] w fun e w' => e = .returned (.tuple #[.string s, .int .i64 0]) ∧ Below w.heap.size w w') := hide (fun w v hr => by
      have := c_iStoreSignal v xs (f : Int) w hr (by omega); unfold StoR at this; rw [HST.out.ok] at this; exact this)
    have KT : Sec (∀ w v, RdI w v (xs ++ ys) → Calls Tryz.prog 15 #[v, .int .i64 (f : Int)] w fun e w' => e = .returned (.tuple #[.string s2, .int .i64 0]) ∧ Below w.heap.size w w') := hide (fun w v hr => by
      have := c_sStoreSignal v (xs ++ ys) (f : Int) w hr (by rw [List.length_append]; omega); unfold StoR at this; rw [HST2.out] at this; exact this)
    have KL : Sec (∀ w, Calls Tryz.prog 9 #[.string s] w (SlR (xs, 0) w)) := hide (fun w => by rw [← HST.out.load]; exact c_iLoadSignal s w hsz)
    have KI : Sec (∀ w, Calls Tryz.prog 10 #[.string s] w fun e w' => e = .returned (.tuple #[.int .i64 (xs.length : Int), .int .i64 (f : Int), .int .i64 0]) ∧ Below w.heap.size w w') := hide (fun w => by
      have := c_iStoreInfo s w (by omega); unfold Info at this; rw [HST.out.info] at this; exact this)
    have KD : Sec (∀ w, Calls Tryz.prog 16 #[.string s] w (SlR ([], 0) w)) := hide (fun w => by rw [← HST.out.dmg]; exact c_iDamagedFrames s w hsz)
    have KA : Sec (∀ w v, RdI w v ys → Calls Tryz.prog 14 #[.string s, v] w (StR (s2, 0) w)) := hide (fun w v hr => by rw [← HAP.out]; exact c_iAppendSignal s v ys w hsz hr)
    go_wp2_with fail
    refine (KS.out _ _ HA3.out.rd).mono ?_; rintro e w4 ⟨rfl, hb⟩
    have HB4 := hide (bthen HB3.out hs3 hb); have HA4 := hide (own_all HA3.out hb); have HY4 := hide (own_all HY3.out hb); clear hb
    have hs4 := HB4.out.size
    go_wp2_with fail
    refine (KL.out _).mono ?_; rintro e w5 ⟨vl, rfl, ho, hb⟩
    have HB5 := hide (bthen HB4.out hs4 hb); have HA5 := hide (own_all HA4.out hb); have HY5 := hide (own_all HY4.out hb); have HL5 : Sec (OwI 2 w5 w4.heap.size vl xs) := hide ho; clear hb ho
    have hs5 := HB5.out.size
    go_wp2_with fail
    refine (KI.out _).mono ?_; rintro e w6 ⟨rfl, hb⟩
    have HB6 := hide (bthen HB5.out hs5 hb); have HA6 : Sec (OwI 2 w6 w.heap.size va xs) := hide (own_all HA5.out hb); have HY6 := hide (own_all HY5.out hb); have HL6 : Sec (OwI 2 w6 w4.heap.size vl xs) := hide (own_all HL5.out hb); clear hb
    have hs6 := HB6.out.size
    obtain ⟨Aa, capa, rfl, hla, hca, _⟩ := HA6.out.rd.open_
    obtain ⟨m1, hm1⟩ : ∃ m1 : Nat, xs.length + 1 = m1 := ⟨_, rfl⟩
    have em1 : (xs.length : Int) + 1 = (m1 : Int) := by omega
    have hm1b : m1 ≤ 71 := by omega
    have HM1 := hide hm1; clear hm1
    go_wp2_with (go_at_call 11; refine (c_v8Same _ _ xs xs _ HL6.out.rd HA6.out.rd).mono ?_; rw [decide_eq_true (rfl : xs = xs)]; rintro e _ ⟨rfl, n2, rfl⟩)
    have HB7 := hide (below_drewN HB6.out n2); have HA7 : Sec (OwI 2 (w6.drewN n2) w.heap.size (.slice Aa xs.length capa) xs) := hide HA6.out; have HY7 : Sec (OwI 2 (w6.drewN n2) w1.heap.size vb ys) := hide HY6.out
    generalize w6.drewN n2 = w7 at *
    have hs7 := HB7.out.size; have HC7 := hide (H2.out.below HB7.out)
    refine (c_v8At _ c2 1 m1 _ HC7.out (by omega) (by omega) (by omega)).mono ?_; rintro e w8 ⟨fr, rfl, hfr, hd⟩
    have HB8 := hide (Dr.below HB7.out hd); have HA8 := hide (HA7.out.dr hd); have HY8 := hide (HY7.out.dr hd); have HC8 := hide (H2.out.below HB8.out); have hs8 := HB8.out.size; clear hd
    have hfrn : fr ≤ xs.length := by have := HM1.out; omega
    obtain ⟨q, hq⟩ : ∃ q : Nat, q = xs.length - fr := ⟨_, rfl⟩
    have eq1 : (xs.length : Int) - (fr : Int) = (q : Int) := by omega
    obtain ⟨m2, hm2⟩ : ∃ m2 : Nat, q + 1 = m2 := ⟨_, rfl⟩
    have em2 : (q : Int) + 1 = (m2 : Int) := by omega
    have hm2b : m2 ≤ 71 := by omega
    have HQ := hide hq; have HM2 := hide hm2; clear hq hm2
    go_wp2_with fail
    refine (c_v8At _ c2 2 m2 _ HC8.out (by omega) (by omega) (by omega)).mono ?_; rintro e w9 ⟨cn, rfl, hcn, hd⟩
    have HB9 := hide (Dr.below HB8.out hd); have HA9 := hide (HA8.out.dr hd); have HY9 := hide (HY8.out.dr hd); have hs9 := HB9.out.size; clear hd
    have hcnq : fr + cn ≤ xs.length := by have := HQ.out; have := HM2.out; omega
    have KR : Sec (∀ w, Calls Tryz.prog 12 #[.string s, .int .i64 (fr : Int), .int .i64 (cn : Int)] w (SlR ((xs.drop fr).take cn, 0) w)) := hide (fun w => by rw [← HST.out.range fr cn hcnq]; exact c_iLoadRange s fr cn w hsz)
    clear hfr hcn eq1 em1 em2
    go_wp2_with fail
    refine (KR.out _).mono ?_; rintro e w10 ⟨vp, rfl, ho, hb⟩
    have HB10 := hide (bthen HB9.out hs9 hb); have HA10 := hide (own_all HA9.out hb); have HY10 := hide (own_all HY9.out hb); have HP10 : Sec (OwI 2 w10 w9.heap.size vp ((xs.drop fr).take cn)) := hide ho; clear hb ho
    have hs10 := HB10.out.size
    obtain ⟨Ab, capb, rfl, _, _, _⟩ := (OwI.rd HY10.out).open_
    go_wp2_with fail
    have hja := (Bk.born w10 24 #[.slice Aa xs.length capa, .slice Ab ys.length capb]).cell 0; have hjb := (Bk.born w10 24 #[.slice Aa xs.length capa, .slice Ab ys.length capb]).cell 1
    refine (c_join2 w10.heap.size _ _ xs ys _ (by simp) hja hjb (Rd.alloc (OwI.rd HA10.out) _) (Rd.alloc (OwI.rd HY10.out) _) HSX.out HSY.out (by omega)).mono ?_; rintro e w11 ⟨vj, rfl, ho, hb⟩
    clear hja hjb
    have hb11 := below_of_alloc hb
    have HB11 := hide (bthen HB10.out hs10 hb11); have HA11 := hide (own_all HA10.out hb11); have HY11 := hide (own_all HY10.out hb11); have HP11 := hide (own_all HP10.out hb11); have HJ11 := hide ho; clear hb ho hb11
    have hs11 := HB11.out.size
    go_wp2_with fail
    refine (KA.out _ _ (OwI.rd HY11.out)).mono ?_; rintro e w12 ⟨rfl, hb⟩
    have HB12 := hide (bthen HB11.out hs11 hb); have HA12 := hide (own_all HA11.out hb); have HP12 := hide (own_all HP11.out hb); have HJ12 := hide (own_all HJ11.out hb); clear hb
    have hs12 := HB12.out.size
    go_wp2_with fail
    refine (KT.out _ _ (OwI.rd HJ12.out)).mono ?_; rintro e w13 ⟨rfl, hb⟩
    have HB13 := hide (bthen HB12.out hs12 hb); have HA13 := hide (own_all HA12.out hb); have HP13 := hide (own_all HP12.out hb); clear hb
    have hs13 := HB13.out.size
    go_wp2_with fail
    refine (KD.out _).mono ?_; rintro e w14 ⟨vd, rfl, ho, hb⟩
    have HB14 := hide (bthen HB13.out hs13 hb); have HA14 : Sec (OwI 2 w14 w.heap.size (.slice Aa xs.length capa) xs) := hide (own_all HA13.out hb); have HP14 : Sec (OwI 2 w14 w9.heap.size vp ((xs.drop fr).take cn)) := hide (own_all HP13.out hb)
    obtain ⟨Ad, capd, rfl, _, _, _⟩ := (OwI.rd ho).open_
    clear hb ho
    obtain ⟨hi, hhi⟩ : ∃ hi : Nat, fr + cn = hi := ⟨_, rfl⟩
    have ehi : (fr : Int) + (cn : Int) = (hi : Int) := by omega
    have hhl : (hi : Int) ≤ (xs.length : Int) := by omega
    have hfh : (fr : Int) ≤ (hi : Int) := by omega
    have ecn : hi - fr = cn := by omega
    rcases own_forms HA14.out with ⟨hv, hx0⟩ | ⟨ga, capa2, hv, hgl⟩
    · injection hv with hv1 hv2 hv3
      clear hv2
      subst hv1 hv3 hx0
      obtain rfl : fr = 0 := by simp at hfrn; omega
      obtain rfl : cn = 0 := by simp at hcnq; omega
      obtain rfl : hi = 0 := by omega
      go_wp2_with (go_at_call 11; refine (c_v8Same _ _ [] [] _ (OwI.rd HP14.out) (Rd.nil_ _ 1)).mono ?_; rw [decide_eq_true (rfl : ([] : List Int) = [])]; rintro e _ ⟨rfl, n3, rfl⟩)
      go_ret
      exact ⟨rfl, below_drewN HB14.out _⟩
    · injection hv with hv1 hv2 hv3
      subst hv1 hv3
      by_cases hcf : fr = capa
      · obtain rfl : cn = 0 := by omega
        subst hcf
        go_wp2_with (go_at_call 11; refine (c_v8Same _ _ [] [] _ (OwI.rd HP14.out) ?_).mono ?_; exact ⟨by simp, some ⟨ga, 0, none⟩, 0, rfl, by simp, by omega, fun hn => absurd hn (by simp)⟩; rw [decide_eq_true (rfl : ([] : List Int) = [])]; rintro e _ ⟨rfl, n3, rfl⟩)
        go_ret
        exact ⟨rfl, below_drewN HB14.out _⟩
      · have hfc : (fr : Int) < (capa : Int) := by omega
        have hfc2 : fr < capa := by omega
        have HSUB := hide (RdI_sub0 (lo := fr) (hi := hi) (OwI.rd HA14.out) (by omega) (by omega))
        rw [ecn] at HSUB
        go_wp2_with (go_at_call 11; refine (c_v8Same _ _ ((xs.drop fr).take cn) ((xs.drop fr).take cn) _ (OwI.rd HP14.out) HSUB.out).mono ?_; rw [decide_eq_true (rfl : (xs.drop fr).take cn = (xs.drop fr).take cn)]; rintro e _ ⟨rfl, n3, rfl⟩)
        go_ret
        exact ⟨rfl, below_drewN HB14.out _⟩
  · have HL := hide hlong; clear hlong
    go_enter Tryz.func3, Tryz.ntmps3
    go_wp2_with fail
    refine (c_v8Long _ _ c1 c2 _ H1.out H2.out).mono ?_; rw [HL.out]; rintro e _ ⟨rfl, rfl⟩
    go_wp2
    go_ret
    exact ⟨rfl, Below.refl _ _⟩
end Go.Proofs.YtpmflkoepnanoaaGreat
