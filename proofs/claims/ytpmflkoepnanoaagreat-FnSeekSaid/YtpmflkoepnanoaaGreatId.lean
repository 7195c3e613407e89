/- Contracts: all samples of a text of bits; both sides. Contracts: samples out of a text of bits; the other side. Contract: all samples of a text of bits; the other side. -/
import Derived.Test.YtpmflkoepnanoaaGreatIc
import Derived.Test.YtpmflkoepnanoaaGreatAb
import Derived.Test.YtpmflkoepnanoaaGreatGa
namespace Go.Proofs.YtpmflkoepnanoaaGreat
section
open Go.RowKit
theorem OwI.gr {E : TypeId} {w w' : World} {B g : Nat} {v : Value} {xs : List Int} (h : OwI E w B v xs) (hg : Gr g w w') (hgB : g < B) : OwI E w' B v xs := by
  refine ⟨h.1, ?_⟩
  rcases h.2 with hn | ⟨b, cap, cur, rfl, hbg, hb, rest⟩
  · exact .inl hn
  · exact .inr ⟨b, cap, cur, rfl, hbg, by rw [hg.1.block b (Array.getElem?_eq_some_iff.1 hb).1 (by intro e; injection e with e; omega)]; exact hb, rest⟩
def DecR (s : ByteArray) (k n : Nat) (w : World) (e : Ending) (w' : World) : Prop := ∃ v, e = .returned (.tuple #[v, .int .i64 ((decF s.data.toList k n 0 []).2.1 : Int), .int .i64 (decF s.data.toList k n 0 []).2.2]) ∧ OwI 2 w' w.heap.size v (decF s.data.toList k n 0 []).1 ∧ Below w.heap.size w w'
theorem DecR.mkE {s : ByteArray} {k n : Nat} {w w' : World} {c : Int} (h : decF s.data.toList k n 0 [] = ([], 0, c)) (hb : Below w.heap.size w w') : DecR s k n w (.returned (.tuple #[.slice none 0 0, .int .i64 0, .int .i64 c])) w' :=
  ⟨_, by rw [h]; rfl, by rw [h]; exact OwI.nil_ _ _ _, hb⟩
theorem DecR.mk0 {s : ByteArray} {k n : Nat} {w w' : World} {v : Value} {xs : List Int} {p : Nat} (h : decF s.data.toList k n 0 [] = (xs, p, 0)) (ho : OwI 2 w' w.heap.size v xs) (hb : Below w.heap.size w w') : DecR s k n w (.returned (.tuple #[v, .int .i64 (p : Int), .int .i64 0])) w' :=
  ⟨_, by rw [h], by rw [h]; exact ho, hb⟩
set_option maxHeartbeats 1000000 in
set_option maxRecDepth 100000 in
theorem c_decodeRice (s : ByteArray) (n k : Nat) (w : World) (hb : Bits s.data.toList) (hs : s.size ≤ 1073741824) (hn : n ≤ 1048576) (hk30 : k ≤ 30) :
    Calls Tryz.prog 73 #[.string s, .int .i64 (n : Int), .int .i64 (k : Int)] w (DecR s k n w) := by
  have HBT := hide hb; clear hb
  go_enter Tryz.func73, Tryz.ntmps73
  go_wp2
  go_loopw [10, 16] (fun t i wr => ∃ (j p : Nat) (acc : List Int), j ≤ n ∧ i = .int .i64 j ∧ p ≤ s.size ∧ acc.length = j ∧ decF s.data.toList k (n - j) p acc = decF s.data.toList k n 0 [] ∧ Bk wr w.heap.size 96 #[.string s, .int .i64 (p : Int), .int .i64 0] ∧ OwI 2 wr (w.heap.size + 1) t acc ∧ Below w.heap.size w wr) (fun _ i _ => n - (intOf i).toNat)
  case atStart => exact ⟨0, 0, [], Nat.zero_le _, rfl, Nat.zero_le _, rfl, rfl, (Bk.born _ _ _).alloc _, by have := new_i64 (w.alloc (.cells #[.string s, .int .i64 0, .int .i64 0] 96)); simpa using this, ((Below.refl _ _).alloc (Nat.le_refl _) _).alloc (by simp) _⟩
  case round =>
    obtain ⟨j, p, acc, hj, rfl, hp, hal, hdec, hbk, ho, hb⟩ := hrel
    have hlt0 := hbk.lt
    have HBK := hide hbk; have HO := hide ho; have HB := hide hb; have HD := hide hdec; have HAL := hide hal; have hsz := hb.size
    by_cases hlt : j < n
    · clear hbk ho hb hdec hal
      have HSC := hide (sampF_code s.data.toList p k)
      have HSO := hide (fun h => sampF_ok (l := s.data.toList) (p := p) (k := k) h)
      go_wp2_with fail
      refine (c_sample w.heap.size s p k _ HBK.out HBT.out hs hp hk30).mono ?_; rintro e w1 ⟨x, p1, c, rfl, hbk1, hg1, hc1, hok⟩
      have HBK1 := hide hbk1; have HO1 := hide (HO.out.gr hg1 (by omega)); have HB1 := hide (Gr.below HB.out hg1 (Nat.le_refl _) hsz); have hsz1 := hg1.2
      have hal1 : acc.length + 1 ≤ 17592186044416 := by have := HAL.out; omega
      have hB1 : w.heap.size + 1 ≤ w1.heap.size := by omega
      have hB2 : w.heap.size ≤ w1.heap.size := by omega
      have HSZ := hide hsz1; have HC := hide hc1; have HOK := hide hok; clear hbk1 hg1 hc1 hok HBK HO HB hsz1
      by_cases hc0 : c = 0
      · subst hc0
        obtain ⟨hx, hp1⟩ := HOK.out rfl
        obtain ⟨_, _, hp3⟩ := HSO.out HC.out.symm
        rw [← hp1, len_data] at hp3
        have HN := hide (show decF s.data.toList k (n - (j + 1)) p1 (acc ++ [x]) = decF s.data.toList k n 0 [] by
          rw [← HD.out, show n - j = (n - (j + 1)) + 1 by omega]
          exact (decF_go (by rw [hx, hp1, HC.out])).symm)
        clear hx hp1
        go_wp2_with (at_builtin; refine app1_i64 rfl _ _ rfl rfl HO1.out rfl hal1 hB1 ?_; intro v1 w2 ho1 hg2 hv1; have hb2 := below_own HB1.out HO1.out hg2 (by omega) hB2; have hbk2 := HBK1.out.grown hg2 (fun e => by have := (HO1.out.lt _ e.symm).1; omega); have c0 := hbk2.cell 0; have c1 := hbk2.cell 1; have c2 := hbk2.cell 2; have f0 := hbk2.free 0; have f1 := hbk2.free 1; have f2 := hbk2.free 2; simp at c0 c1 c2; have HO2 := hide ho1; have HB2 := hide hb2; have HBK2 := hide hbk2; clear ho1 hb2 hbk2 hg2 hv1)
        go_roundw
        case rel => exact ⟨j + 1, p1, acc ++ [x], by omega, by go_num, hp3, by simp [HAL.out], HN.out, HBK2.out, HO2.out, HB2.out⟩
        case measure => first | (simp [intOf]; done) | (simp [intOf]; omega)
      · have HN := hide (show decF s.data.toList k n 0 [] = ([], 0, c) by
          rw [← HD.out, show n - j = (n - (j + 1)) + 1 by omega]
          exact decF_no (x := (sampF s.data.toList p k).1) (q := (sampF s.data.toList p k).2.1) (by rw [HC.out]) hc0)
        have ht : (c != 0) = true := by simpa using hc0
        clear hc0
        go_wp2_with (at_builtin; refine app1_i64 rfl _ _ rfl rfl HO1.out rfl hal1 hB1 ?_; intro v1 w2 ho1 hg2 hv1; have hb2 := below_own HB1.out HO1.out hg2 (by omega) hB2; have hbk2 := HBK1.out.grown hg2 (fun e => by have := (HO1.out.lt _ e.symm).1; omega); have c0 := hbk2.cell 0; have c1 := hbk2.cell 1; have c2 := hbk2.cell 2; have f0 := hbk2.free 0; have f1 := hbk2.free 1; have f2 := hbk2.free 2; simp at c0 c1 c2; have HO2 := hide ho1; have HB2 := hide hb2; have HBK2 := hide hbk2; clear ho1 hb2 hbk2 hg2 hv1)
        go_quiet (fail)
        go_wp2
        refine bodyPost_ret (results_tmp3 rfl _ _ _) rfl ?_
        exact DecR.mkE HN.out (below_drewN HB2.out _)
    · obtain rfl : j = n := by omega
      have c0 := hbk.cell 0; have c1 := hbk.cell 1; have c2 := hbk.cell 2
      have f0 := hbk.free 0; have f1 := hbk.free 1; have f2 := hbk.free 2
      simp at c0 c1 c2
      clear hbk ho hb hdec hal
      go_wp2
      go_quiet (fail)
      go_wp2
      refine bodyPost_ret (results_tmp3 rfl _ _ _) rfl ?_
      refine DecR.mk0 (p := p) (by rw [← HD.out, Nat.sub_self]; rfl) (HO.out.more (by omega)) ?_
      exact below_drewN HB.out _
end
section
open Go.RowKit
def SsR (s : ByteArray) (p k : Nat) (w : World) (e : Ending) (w' : World) : Prop := e = .returned (.tuple #[.int .i64 (sampF s.data.toList p k).1, .int .i64 ((sampF s.data.toList p k).2.1 : Int), .int .i64 (sampF s.data.toList p k).2.2]) ∧ Dr w w'
theorem SsR.mk {s : ByteArray} {p k : Nat} {w w' : World} {x : Int} {p' : Nat} {c : Int} (h : sampF s.data.toList p k = (x, p', c)) (hd : Dr w w') : SsR s p k w (.returned (.tuple #[.int .i64 x, .int .i64 (p' : Int), .int .i64 c])) w' := ⟨by rw [h], hd⟩
set_option maxHeartbeats 1000000 in
set_option maxRecDepth 100000 in
theorem c_l29Sample (s : ByteArray) (p k : Nat) (w : World) (hb : Bits s.data.toList) (hs : s.size ≤ 1073741824) (hp : p ≤ s.size) (hk30 : k ≤ 30) :
    Calls Tryz.prog 119 #[.string s, .int .i64 (p : Int), .int .i64 (k : Int)] w (SsR s p k w) := by
  have HBT := hide hb; clear hb
  have HLD := hide (len_data s)
  go_enter Tryz.func119, Tryz.ntmps119
  go_wp2
  go_loopw [1, 9] (fun a i wr => ∃ q : Nat, q ≤ 20 ∧ i = .int .i64 q ∧ a = .int .i64 ((p + q : Nat) : Int) ∧ p + q ≤ s.size ∧ onesF s.data.toList 20 p = onesF s.data.toList (20 - q) (p + q) + q ∧ Dr w wr) (fun _ i _ => 20 - (intOf i).toNat)
  case atStart => exact ⟨0, by omega, rfl, rfl, hp, rfl, Dr.refl _⟩
  case round =>
    obtain ⟨q, hq, rfl, rfl, hpq, hon, hd⟩ := hrel
    have HON := hide hon; have HD := hide hd; clear hon hd
    by_cases hlt : q < 20
    · by_cases he : p + q = s.size
      · have hz : onesF s.data.toList (20 - q) (p + q) = 0 := onesF_stop (bitN_end (by rw [len_data]; omega))
        have HZ := hide (show onesF s.data.toList 20 p = q by rw [HON.out, hz]; omega); clear hz
        have HS := hide (samp_cut2 (k := k) hlt HZ.out (by rw [HLD.out]; omega))
        have hnl : ¬ (p : Int) + (q : Int) < (s.size : Int) := by omega
        have hq20 : ¬ (q : Int) = 20 := by omega
        go_wp2
        refine bodyPost_ret (results_tmp3 rfl _ _ _) rfl ?_
        exact SsR.mk (p' := 0) HS.out HD.out
      · have hlt2 : p + q < s.size := by omega
        have hg := bA_get hlt2
        have HBB := hide (bA_bit HBT.out hlt2)
        have hb1 : 48 ≤ bA s (p + q) ∧ bA s (p + q) ≤ 49 := by rcases HBB.out with h | h <;> omega
        by_cases h1 : bA s (p + q) = 49
        · have HON1 := hide (show onesF s.data.toList 20 p = onesF s.data.toList (20 - (q + 1)) (p + (q + 1)) + (q + 1) by
            have hz : bitN s.data.toList (p + q) = 1 := by rcases HBB.out with h | h <;> omega
            rw [HON.out, show 20 - q = (20 - (q + 1)) + 1 by omega, onesF_step hz, Nat.add_assoc p q 1]; omega)
          have ht : ((bA s (p + q) : Int) == 49) = true := by simp; omega
          generalize bA s (p + q) = z at *
          clear HBB
          go_wp2
          go_roundw
          case rel => exact ⟨q + 1, by omega, by go_num, by go_num, by omega, HON1.out, by first | exact HD.out | exact HD.out.drewN _ | exact HD.out.drew⟩
          case measure => first | (simp [intOf]; done) | (simp [intOf]; omega)
        · have HQ := hide (show onesF s.data.toList 20 p = q by
            have hz : bitN s.data.toList (p + q) = 0 := by rcases HBB.out with h | h <;> omega
            rw [HON.out, onesF_stop hz]; omega)
          have ht : ((bA s (p + q) : Int) == 49) = false := by simp; omega
          generalize bA s (p + q) = z at *
          clear HBB
          have hq20 : ¬ (q : Int) = 20 := by omega
          by_cases hcut : s.size < p + q + 1 + k
          · have HS := hide (samp_cut2 (k := k) hlt HQ.out (by rw [HLD.out]; exact hcut))
            go_wp2_with fail
            refine (c_l29Read_cut s (p + q + 1) k _ hs (by omega) (by omega) (by omega)).mono ?_; rintro e w2 ⟨rfl, hd2⟩
            have HD2 := hide (HD.out.trans hd2); clear hd2
            go_wp2
            refine bodyPost_ret (results_tmp3 rfl _ _ _) rfl ?_
            exact SsR.mk (p' := 0) HS.out HD2.out
          · have hpw : 2 ^ k ≤ 1073741824 := Nat.pow_le_pow_right (n := 2) (by omega) hk30
            have hqk : q * 2 ^ k ≤ 19 * 1073741824 := Nat.mul_le_mul (by omega) hpw
            obtain ⟨m, hm⟩ : ∃ m, q * 2 ^ k = m := ⟨_, rfl⟩
            have e1 : wrap64 ((q : Int) * 2 ^ k) = (m : Int) := by
              have h1 : (q : Int) * 2 ^ k = (m : Int) := by rw [← hm]; simp
              rw [h1]; exact IntWalk.wrap64_in _ (by omega)
            rw [hm] at hqk
            have HM := hide hm; clear hm hpw
            have hr := readF_lt s.data.toList (p + q + 1) k
            have hr2 : readF s.data.toList (p + q + 1) k < 4294967296 := Nat.lt_of_lt_of_le hr (Nat.pow_le_pow_right (n := 2) (by omega) (show k ≤ 32 by omega))
            clear hr
            have HS1 := hide (fun h => samp_bad2 (k := k) hlt HQ.out (by rw [HLD.out]; exact hcut) h)
            have HS2 := hide (fun h => samp_ok2 (k := k) hlt HQ.out (by rw [HLD.out]; exact hcut) h)
            rw [HM.out] at HS1 HS2
            go_wp2_with fail
            refine (c_l29Read_ok s (p + q + 1) k _ HBT.out hs (by omega) (by omega)).mono ?_; rintro e w2 ⟨rfl, hd2⟩
            have HD2 := hide (HD.out.trans hd2); clear hd2
            generalize readF s.data.toList (p + q + 1) k = n at *
            obtain ⟨t, ht⟩ : ∃ t, m + n = t := ⟨_, rfl⟩
            have e2 : (n : Int) + (m : Int) = (t : Int) := by omega
            have htb : t ≤ 1099511627776 := by omega
            rw [ht] at HS1 HS2
            have HT := hide ht; clear ht
            by_cases hbig : 4294967295 < t
            · have HBG := hide hbig
              have hbi : (4294967295 : Int) < (t : Int) := by omega
              clear hbig
              go_wp2_with fail
              refine bodyPost_ret (results_tmp3 rfl _ _ _) rfl ?_
              exact SsR.mk (p' := 0) (HS1.out HBG.out) HD2.out
            · have HBG := hide hbig
              have hbi : ¬ (4294967295 : Int) < (t : Int) := by omega
              clear hbig
              go_wp2_with fail
              refine (c_l29Unfold t _ htb).mono ?_; rintro e _ ⟨rfl, rfl⟩
              go_wp2
              refine bodyPost_ret (results_tmp3 rfl _ _ _) rfl ?_
              exact SsR.mk (p' := p + q + 1 + k) (HS2.out HBG.out) HD2.out
    · obtain rfl : q = 20 := by omega
      have H20 := hide (show onesF s.data.toList 20 p = 20 from HON.out)
      by_cases hcut : s.size < p + 52
      · have HS := hide (samp_cut1 (k := k) H20.out (by rw [HLD.out]; exact hcut))
        go_wp2_with fail
        refine (c_l29Read_cut s (p + 20) 32 _ hs (by omega) (by omega) (by omega)).mono ?_; rintro e w2 ⟨rfl, hd2⟩
        have HD2 := hide (HD.out.trans hd2); clear hd2
        go_wp2
        refine bodyPost_ret (results_tmp3 rfl _ _ _) rfl ?_
        exact SsR.mk (p' := 0) HS.out HD2.out
      · have hr := readF_lt s.data.toList (p + 20) 32
        have HS1 := hide (fun h => samp_bad1 (k := k) H20.out (by rw [HLD.out]; exact hcut) h)
        have HS2 := hide (fun h => samp_ok1 (k := k) H20.out (by rw [HLD.out]; exact hcut) h)
        go_wp2_with fail
        refine (c_l29Read_ok s (p + 20) 32 _ HBT.out hs (by omega) (by omega)).mono ?_; rintro e w2 ⟨rfl, hd2⟩
        have HD2 := hide (HD.out.trans hd2); clear hd2
        generalize readF s.data.toList (p + 20) 32 = n at *
        by_cases hsm : n / 2 ^ k < 20
        · have ht : (n : Int) / 2 ^ k < 20 := by have := Int.ofNat_lt.2 hsm; simpa using this
          go_wp2
          refine bodyPost_ret (results_tmp3 rfl _ _ _) rfl ?_
          exact SsR.mk (p' := 0) (HS1.out hsm) HD2.out
        · have ht : ¬ (n : Int) / 2 ^ k < 20 := by intro h; apply hsm; apply Int.ofNat_lt.1; simpa using h
          go_wp2_with fail
          refine (c_l29Unfold n _ (by omega)).mono ?_; rintro e _ ⟨rfl, rfl⟩
          go_wp2
          refine bodyPost_ret (results_tmp3 rfl _ _ _) rfl ?_
          exact SsR.mk (p' := p + 52) (HS2.out hsm) HD2.out
end
open Go.RowKit
set_option maxHeartbeats 1000000 in
set_option maxRecDepth 100000 in
theorem c_l29Decode (s : ByteArray) (n k : Nat) (w : World) (hb : Bits s.data.toList) (hs : s.size ≤ 1073741824) (hn : n ≤ 1048576) (hk30 : k ≤ 30) :
    Calls Tryz.prog 103 #[.string s, .int .i64 (n : Int), .int .i64 (k : Int)] w (DecR s k n w) := by
  have HBT := hide hb; clear hb
  go_enter Tryz.func103, Tryz.ntmps103
  go_wp2
  go_loopw [9, 10] (fun t a wr => ∃ (p : Nat) (acc : List Int), a = .int .i64 p ∧ p ≤ s.size ∧ acc.length ≤ n ∧ decF s.data.toList k (n - acc.length) p acc = decF s.data.toList k n 0 [] ∧ OwI 2 wr w.heap.size t acc ∧ Below w.heap.size w wr) (fun _ a _ => s.size - (intOf a).toNat)
  case atStart => exact ⟨0, [], rfl, Nat.zero_le _, Nat.zero_le _, rfl, new_i64 w, (Below.refl _ _).alloc (Nat.le_refl _) _⟩
  case round =>
    obtain ⟨p, acc, rfl, hp, hal, hdec, ho, hb⟩ := hrel
    obtain ⟨A, cap, rfl, hl, hc, _⟩ := ho.rd.open_
    have HO := hide ho; have HB := hide hb; have HD := hide hdec; have hsz := hb.size
    clear ho hb hdec
    by_cases hlt : acc.length < n
    · have HSC := hide (sampF_code s.data.toList p k)
      have HSO := hide (fun h => sampF_ok (l := s.data.toList) (p := p) (k := k) h)
      have HSA := hide (c_l29Sample s p k · HBT.out hs hp hk30)
      have HLD := hide (len_data s)
      obtain ⟨x, p1, c, hx⟩ : ∃ x p1 c, sampF s.data.toList p k = (x, p1, c) := ⟨_, _, _, rfl⟩
      have HX := hide hx
      rw [hx] at HSC HSO
      clear hx
      go_wp2_with fail
      refine (HSA.out _).mono ?_; rintro e w1 ⟨rfl, n1, rfl⟩; rw [HX.out]
      by_cases hc0 : c = 0
      · subst hc0
        obtain ⟨_, hp2, hp3⟩ := HSO.out rfl
        replace hp2 : p < p1 := hp2
        replace hp3 : p1 ≤ s.size := by rw [← HLD.out]; exact hp3
        have HN := hide (show decF s.data.toList k (n - (acc ++ [x]).length) p1 (acc ++ [x]) = decF s.data.toList k n 0 [] by
          rw [← HD.out, show n - acc.length = (n - (acc ++ [x]).length) + 1 by simp; omega]
          exact (decF_go HX.out).symm)
        have hal1 : acc.length + 1 ≤ 17592186044416 := by omega
        go_wp2_with (at_builtin; refine app1_i64 rfl _ _ rfl rfl (show OwI _ _ _ _ _ from HO.out) rfl hal1 hsz ?_; intro v1 w2 ho1 hg2 hv1; have hb2 := below_own (Dr.below HB.out ⟨n1, rfl⟩) HO.out hg2 (Nat.le_refl _) hsz; have HO2 := hide ho1; have HB2 := hide hb2; clear ho1 hb2 hg2 hv1)
        go_roundw
        case rel => exact ⟨p1, acc ++ [x], by go_num, hp3, by simp; omega, HN.out, HO2.out, HB2.out⟩
        case measure => first | (simp [intOf]; done) | (simp [intOf]; omega)
      · have HN := hide (show decF s.data.toList k n 0 [] = ([], 0, c) by
          rw [← HD.out, show n - acc.length = (n - (acc.length + 1)) + 1 by omega]
          exact decF_no HX.out hc0)
        have ht : (c != 0) = true := by simpa using hc0
        clear hc0
        go_wp2
        refine bodyPost_ret (results_tmp3 rfl _ _ _) rfl ?_
        exact DecR.mkE HN.out (Dr.below HB.out ⟨n1, rfl⟩)
    · have hle : acc.length = n := by omega
      go_wp2
      refine bodyPost_ret (results_tmp3 rfl _ _ _) rfl ?_
      exact DecR.mk0 (p := p) (by rw [← HD.out, hle, Nat.sub_self]; rfl) HO.out HB.out
end Go.Proofs.YtpmflkoepnanoaaGreat
