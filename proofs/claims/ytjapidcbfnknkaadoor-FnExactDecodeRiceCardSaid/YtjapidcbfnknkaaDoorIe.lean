/- Contracts: samples out of a text of bits; the other side. -/
import Derived.Test.YtjapidcbfnknkaaDoorId
namespace Go.Proofs.YtjapidcbfnknkaaDoor
open Go.RowKit
def SsR (s : ByteArray) (p k : Nat) (w : World) (e : Ending) (w' : World) : Prop := e = .returned (.tuple #[.int .i64 (sampF s.data.toList p k).1, .int .i64 ((sampF s.data.toList p k).2.1 : Int), .int .i64 (sampF s.data.toList p k).2.2]) ∧ Dr w w'
theorem SsR.mk {s : ByteArray} {p k : Nat} {w w' : World} {x : Int} {p' : Nat} {c : Int} (h : sampF s.data.toList p k = (x, p', c)) (hd : Dr w w') : SsR s p k w (.returned (.tuple #[.int .i64 x, .int .i64 (p' : Int), .int .i64 c])) w' := ⟨by rw [h], hd⟩
set_option maxHeartbeats 1000000 in
set_option maxRecDepth 100000 in
theorem c_l29Sample (s : ByteArray) (p k : Nat) (w : World) (hb : Bits s.data.toList) (hs : s.size ≤ 1073741824) (hp : p ≤ s.size) (hk30 : k ≤ 30) :
    Calls Tryd.prog 113 #[.string s, .int .i64 (p : Int), .int .i64 (k : Int)] w (SsR s p k w) := by
  have HBT := hide hb; clear hb
  have HLD := hide (len_data s)
  go_enter Tryd.func113, Tryd.ntmps113
  go_wp2
  go_loopw [1, 9] (fun a i wr => ∃ q : Nat, q ≤ 20 ∧ i = .int .i64 q ∧ a = .int .i64 ((p + q : Nat) : Int) ∧ p + q ≤ s.size ∧ onesF s.data.toList 20 p = onesF s.data.toList (20 - q) (p + q) + q ∧ Dr w wr) (fun _ i _ => 20 - (intOf i).toNat)
  case atStart => exact ⟨0, by omega, rfl, rfl, hp, rfl, Dr.refl _⟩
  case round =>
    obtain ⟨q, hq, rfl, rfl, hpq, hon, hd⟩ := hrel
    have HON := hide hon; have HD := hide hd; clear hon hd
    by_cases hlt : q < 20
    · by_cases he : p + q = s.size
      · have hz : onesF s.data.toList (20 - q) (p + q) = 0 := onesF_stop (bitN_end (by rw [len_data]; omega))
        have HZ := hide (show onesF s.data.toList 20 p = q by rw [HON.out, hz]; omega); clear hz
        have HS := hide (samp_cut2 (k := k) hlt HZ.out (by rw [HLD.out]; omega))
        have hnl : ¬ (p : Int) + (q : Int) < (s.size : Int) := by omega
        have hq20 : ¬ (q : Int) = 20 := by omega
        go_wp2
        refine bodyPost_ret (results_tmp3 rfl _ _ _) rfl ?_
        exact SsR.mk (p' := 0) HS.out HD.out
      · have hlt2 : p + q < s.size := by omega
        have hg := bA_get hlt2
        have HBB := hide (bA_bit HBT.out hlt2)
        have hb1 : 48 ≤ bA s (p + q) ∧ bA s (p + q) ≤ 49 := by rcases HBB.out with h | h <;> omega
        by_cases h1 : bA s (p + q) = 49
        · have HON1 := hide (show onesF s.data.toList 20 p = onesF s.data.toList (20 - (q + 1)) (p + (q + 1)) + (q + 1) by
            have hz : bitN s.data.toList (p + q) = 1 := by rcases HBB.out with h | h <;> omega
            rw [HON.out, show 20 - q = (20 - (q + 1)) + 1 by omega, onesF_step hz, Nat.add_assoc p q 1]; omega)
          have ht : ((bA s (p + q) : Int) == 49) = true := by simp; omega
          generalize bA s (p + q) = z at *
          clear HBB
          go_wp2
          go_roundw
          case rel => exact ⟨q + 1, by omega, by go_num, by go_num, by omega, HON1.out, by first | exact HD.out | exact HD.out.drewN _ | exact HD.out.drew⟩
          case measure => first | (simp [intOf]; done) | (simp [intOf]; omega)
        · have HQ := hide (show onesF s.data.toList 20 p = q by
            have hz : bitN s.data.toList (p + q) = 0 := by rcases HBB.out with h | h <;> omega
            rw [HON.out, onesF_stop hz]; omega)
          have ht : ((bA s (p + q) : Int) == 49) = false := by simp; omega
          generalize bA s (p + q) = z at *
          clear HBB
          have hq20 : ¬ (q : Int) = 20 := by omega
          by_cases hcut : s.size < p + q + 1 + k
          · have HS := hide (samp_cut2 (k := k) hlt HQ.out (by rw [HLD.out]; exact hcut))
            go_wp2_with fail
            refine (c_l29Read_cut s (p + q + 1) k _ hs (by omega) (by omega) (by omega)).mono ?_; rintro e w2 ⟨rfl, hd2⟩
            have HD2 := hide (HD.out.trans hd2); clear hd2
            go_wp2
            refine bodyPost_ret (results_tmp3 rfl _ _ _) rfl ?_
            exact SsR.mk (p' := 0) HS.out HD2.out
          · have hpw : 2 ^ k ≤ 1073741824 := Nat.pow_le_pow_right (n := 2) (by omega) hk30
            have hqk : q * 2 ^ k ≤ 19 * 1073741824 := Nat.mul_le_mul (by omega) hpw
            obtain ⟨m, hm⟩ : ∃ m, q * 2 ^ k = m := ⟨_, rfl⟩
            have e1 : wrap64 ((q : Int) * 2 ^ k) = (m : Int) := by
              have h1 : (q : Int) * 2 ^ k = (m : Int) := by rw [← hm]; simp
              rw [h1]; exact IntWalk.wrap64_in _ (by omega)
            rw [hm] at hqk
            have HM := hide hm; clear hm hpw
            have hr := readF_lt s.data.toList (p + q + 1) k
            have hr2 : readF s.data.toList (p + q + 1) k < 4294967296 := Nat.lt_of_lt_of_le hr (Nat.pow_le_pow_right (n := 2) (by omega) (show k ≤ 32 by omega))
            clear hr
            have HS1 := hide (fun h => samp_bad2 (k := k) hlt HQ.out (by rw [HLD.out]; exact hcut) h)
            have HS2 := hide (fun h => samp_ok2 (k := k) hlt HQ.out (by rw [HLD.out]; exact hcut) h)
            rw [HM.out] at HS1 HS2
            go_wp2_with fail
            refine (c_l29Read_ok s (p + q + 1) k _ HBT.out hs (by omega) (by omega)).mono ?_; rintro e w2 ⟨rfl, hd2⟩
            have HD2 := hide (HD.out.trans hd2); clear hd2
            generalize readF s.data.toList (p + q + 1) k = n at *
            obtain ⟨t, ht⟩ : ∃ t, m + n = t := ⟨_, rfl⟩
            have e2 : (n : Int) + (m : Int) = (t : Int) := by omega
            have htb : t ≤ 1099511627776 := by omega
            rw [ht] at HS1 HS2
            have HT := hide ht; clear ht
            by_cases hbig : 4294967295 < t
            · have HBG := hide hbig
              have hbi : (4294967295 : Int) < (t : Int) := by omega
              clear hbig
              go_wp2_with fail
              refine bodyPost_ret (results_tmp3 rfl _ _ _) rfl ?_
              exact SsR.mk (p' := 0) (HS1.out HBG.out) HD2.out
            · have HBG := hide hbig
              have hbi : ¬ (4294967295 : Int) < (t : Int) := by omega
              clear hbig
              go_wp2_with fail
              refine (c_l29Unfold t _ htb).mono ?_; rintro e _ ⟨rfl, rfl⟩
              go_wp2
              refine bodyPost_ret (results_tmp3 rfl _ _ _) rfl ?_
              exact SsR.mk (p' := p + q + 1 + k) (HS2.out HBG.out) HD2.out
    · obtain rfl : q = 20 := by omega
      have H20 := hide (show onesF s.data.toList 20 p = 20 from HON.out)
      by_cases hcut : s.size < p + 52
      · have HS := hide (samp_cut1 (k := k) H20.out (by rw [HLD.out]; exact hcut))
        go_wp2_with fail
        refine (c_l29Read_cut s (p + 20) 32 _ hs (by omega) (by omega) (by omega)).mono ?_; rintro e w2 ⟨rfl, hd2⟩
        have HD2 := hide (HD.out.trans hd2); clear hd2
        go_wp2
        refine bodyPost_ret (results_tmp3 rfl _ _ _) rfl ?_
        exact SsR.mk (p' := 0) HS.out HD2.out
      · have hr := readF_lt s.data.toList (p + 20) 32
        have HS1 := hide (fun h => samp_bad1 (k := k) H20.out (by rw [HLD.out]; exact hcut) h)
        have HS2 := hide (fun h => samp_ok1 (k := k) H20.out (by rw [HLD.out]; exact hcut) h)
        go_wp2_with fail
        refine (c_l29Read_ok s (p + 20) 32 _ HBT.out hs (by omega) (by omega)).mono ?_; rintro e w2 ⟨rfl, hd2⟩
        have HD2 := hide (HD.out.trans hd2); clear hd2
        generalize readF s.data.toList (p + 20) 32 = n at *
        by_cases hsm : n / 2 ^ k < 20
        · have ht : (n : Int) / 2 ^ k < 20 := by have := Int.ofNat_lt.2 hsm; simpa using this
          go_wp2
          refine bodyPost_ret (results_tmp3 rfl _ _ _) rfl ?_
          exact SsR.mk (p' := 0) (HS1.out hsm) HD2.out
        · have ht : ¬ (n : Int) / 2 ^ k < 20 := by intro h; apply hsm; apply Int.ofNat_lt.1; simpa using h
          go_wp2_with fail
          refine (c_l29Unfold n _ (by omega)).mono ?_; rintro e _ ⟨rfl, rfl⟩
          go_wp2
          refine bodyPost_ret (results_tmp3 rfl _ _ _) rfl ?_
          exact SsR.mk (p' := p + 52) (HS2.out hsm) HD2.out
end Go.Proofs.YtjapidcbfnknkaaDoor
