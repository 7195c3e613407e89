/- Contract: a sample out of the reader of codes. -/
import Derived.Test.YtpmflkoepnanoaaDoorIb
namespace Go.Proofs.YtpmflkoepnanoaaDoor
open Go.RowKit
/-- What the sample's reader leaves. -/
def SaR (g : Nat) (s : ByteArray) (p k : Nat) (w : World) (e : Ending) (w' : World) : Prop := ∃ (x : Int) (p' : Nat) (c : Int), e = .returned (.int .i64 x) ∧ Bk w' g 122 #[.string s, .int .i64 (p' : Int), .int .i64 c] ∧ Gr g w w' ∧ c = (sampF s.data.toList p k).2.2 ∧ (c = 0 → x = (sampF s.data.toList p k).1 ∧ p' = (sampF s.data.toList p k).2.1)
theorem samp_cut1 {l : List UInt8} {p k : Nat} (h : onesF l 20 p = 20) (h2 : l.length < p + 52) : sampF l p k = (0, 0, 11) := by unfold sampF; rw [if_pos h, if_pos h2]
theorem samp_bad1 {l : List UInt8} {p k : Nat} (h : onesF l 20 p = 20) (h2 : ¬ l.length < p + 52) (h3 : readF l (p + 20) 32 / 2 ^ k < 20) : sampF l p k = (0, 0, 9) := by unfold sampF; rw [if_pos h, if_neg h2, if_pos h3]
theorem samp_ok1 {l : List UInt8} {p k : Nat} (h : onesF l 20 p = 20) (h2 : ¬ l.length < p + 52) (h3 : ¬ readF l (p + 20) 32 / 2 ^ k < 20) : sampF l p k = (unfF (readF l (p + 20) 32), p + 52, 0) := by unfold sampF; rw [if_pos h, if_neg h2, if_neg h3]
theorem samp_cut2 {l : List UInt8} {p k q : Nat} (h : q < 20) (hq : onesF l 20 p = q) (h2 : l.length < p + q + 1 + k) : sampF l p k = (0, 0, 11) := by subst hq; unfold sampF; rw [if_neg (by omega), if_pos h2]
theorem samp_bad2 {l : List UInt8} {p k q : Nat} (h : q < 20) (hq : onesF l 20 p = q) (h2 : ¬ l.length < p + q + 1 + k) (h3 : 4294967295 < q * 2 ^ k + readF l (p + q + 1) k) : sampF l p k = (0, 0, 9) := by subst hq; unfold sampF; rw [if_neg (by omega), if_neg h2, if_pos h3]
theorem samp_ok2 {l : List UInt8} {p k q : Nat} (h : q < 20) (hq : onesF l 20 p = q) (h2 : ¬ l.length < p + q + 1 + k) (h3 : ¬ 4294967295 < q * 2 ^ k + readF l (p + q + 1) k) : sampF l p k = (unfF (q * 2 ^ k + readF l (p + q + 1) k), p + q + 1 + k, 0) := by subst hq; unfold sampF; rw [if_neg (by omega), if_neg h2, if_neg h3]
theorem SaR.mkE {g : Nat} {s : ByteArray} {p k : Nat} {w w' : World} {x : Int} {p' : Nat} {c : Int} (h : sampF s.data.toList p k = (0, 0, c)) (hc : c ≠ 0) (hb : Bk w' g 122 #[.string s, .int .i64 (p' : Int), .int .i64 c]) (hg : Gr g w w') : SaR g s p k w (.returned (.int .i64 x)) w' :=
  ⟨x, p', c, rfl, hb, hg, by rw [h], fun h => absurd h hc⟩
theorem SaR.mk0 {g : Nat} {s : ByteArray} {p k : Nat} {w w' : World} {x : Int} {p' : Nat} (h : sampF s.data.toList p k = (x, p', 0)) (hb : Bk w' g 122 #[.string s, .int .i64 (p' : Int), .int .i64 0]) (hg : Gr g w w') : SaR g s p k w (.returned (.int .i64 x)) w' :=
  ⟨x, p', 0, rfl, hb, hg, by rw [h], fun _ => by rw [h]; exact ⟨rfl, rfl⟩⟩
set_option maxHeartbeats 1000000 in
set_option maxRecDepth 100000 in
theorem c_sample (g : Nat) (s : ByteArray) (p k : Nat) (w : World) (hk : Bk w g 122 #[.string s, .int .i64 (p : Int), .int .i64 0]) (hb : Bits s.data.toList) (hs : s.size ≤ 1073741824) (hp : p ≤ s.size) (hk30 : k ≤ 30) :
    Calls Tryd.prog 102 #[.pointer (some ⟨g, 0, none⟩), .int .i64 (k : Int)] w (SaR g s p k w) := by
  have HK := hide hk; have HBT := hide hb; clear hk hb
  have HLD := hide (len_data s)
  go_enter Tryd.func102, Tryd.ntmps102
  go_wp2_with fail
  refine (c_ones g s p _ HK.out HBT.out hs hp).mono ?_; rintro e w1 ⟨q, p1, c, rfl, hbk1, hg1, hp1, hcase⟩
  have HB1 := hide hbk1; have HG1 := hide hg1; clear hbk1 hg1
  rcases hcase with ⟨h20, rfl, rfl, rfl⟩ | ⟨hlt, hend, rfl, rfl⟩ | ⟨hlt, rfl, rfl, rfl⟩
  · have H20 := hide h20; clear h20
    by_cases hcut : s.size < p + 52
    · have HS := hide (samp_cut1 (k := k) H20.out (by rw [HLD.out]; exact hcut))
      go_wp2_with fail
      refine (c_number_cut g s (p + 20) 32 0 _ HB1.out hs hp1 (by omega) (.inr (by omega))).mono ?_; rintro e w2 ⟨rfl, hbk, hg⟩
      have c2 := hbk.cell 2
      simp at c2
      have HB2 := hide hbk; have HG2 := hide (HG1.out.trans hg); clear hbk hg
      go_wp2_with fail
      refine (c_unfold 0 _ (by omega)).mono ?_; rintro e _ ⟨rfl, rfl⟩
      go_wp2
      go_ret
      exact SaR.mkE HS.out (by decide) HB2.out HG2.out
    · have hr := readF_lt s.data.toList (p + 20) 32
      have HS1 := hide (fun h => samp_bad1 (k := k) H20.out (by rw [HLD.out]; exact hcut) h)
      have HS2 := hide (fun h => samp_ok1 (k := k) H20.out (by rw [HLD.out]; exact hcut) h)
      go_wp2_with fail
      refine (c_number_ok g s (p + 20) 32 _ HB1.out HBT.out hs (by omega) (by omega)).mono ?_; rintro e w2 ⟨rfl, hbk, hg⟩
      have c2 := hbk.cell 2; have f2 := hbk.free 2
      simp at c2
      have HB2 := hide hbk; have HG2 := hide (HG1.out.trans hg); clear hbk hg
      generalize readF s.data.toList (p + 20) 32 = n at *
      have ht1 : decide ((n : Int) > 4294967295) = false := by simp; omega
      by_cases hsm : n / 2 ^ k < 20
      · have ht : (n : Int) / 2 ^ k < 20 := by have := Int.ofNat_lt.2 hsm; simpa using this
        go_wp2_with fail
        refine (c_unfold n _ (by omega)).mono ?_; rintro e _ ⟨rfl, rfl⟩
        go_wp2
        go_ret
        exact SaR.mkE (HS1.out hsm) (by decide) (HB2.out.set_ 2 _) (HG2.out.set_ 2 _)
      · have ht : ¬ (n : Int) / 2 ^ k < 20 := by intro h; apply hsm; apply Int.ofNat_lt.1; simpa using h
        go_wp2_with fail
        refine (c_unfold n _ (by omega)).mono ?_; rintro e _ ⟨rfl, rfl⟩
        go_wp2
        go_ret
        exact SaR.mk0 (HS2.out hsm) HB2.out HG2.out
  · have HS := hide (samp_cut2 (k := k) hlt rfl (by rw [HLD.out]; omega))
    go_wp2_with fail
    refine (c_number_cut g s p1 k 11 _ HB1.out hs hp1 (by omega) (.inl (by decide))).mono ?_; rintro e w2 ⟨rfl, hbk, hg⟩
    have c2 := hbk.cell 2
    simp at c2
    have HB2 := hide hbk; have HG2 := hide (HG1.out.trans hg); clear hbk hg
    go_wp2_with fail
    refine (c_unfold 0 _ (by omega)).mono ?_; rintro e _ ⟨rfl, rfl⟩
    go_wp2
    go_ret
    exact SaR.mkE HS.out (by decide) HB2.out HG2.out
  · generalize hq : onesF s.data.toList 20 p = q at *
    have HQ := hide hq; clear hq
    have hpw : 2 ^ k ≤ 1073741824 := Nat.pow_le_pow_right (n := 2) (by omega) hk30
    have hqk : q * 2 ^ k ≤ 19 * 1073741824 := Nat.mul_le_mul (by omega) hpw
    obtain ⟨m, hm⟩ : ∃ m, q * 2 ^ k = m := ⟨_, rfl⟩
    have e1 : wrap64 ((q : Int) * 2 ^ k) = (m : Int) := by
      have h1 : (q : Int) * 2 ^ k = (m : Int) := by rw [← hm]; simp
      rw [h1]; exact IntWalk.wrap64_in _ (by omega)
    have e3 : wrap64 (m : Int) = (m : Int) := IntWalk.wrap64_in _ (by omega)
    rw [hm] at hqk
    have HM := hide hm; clear hm hpw
    by_cases hcut : s.size < p + q + 1 + k
    · have HS := hide (samp_cut2 (k := k) hlt HQ.out (by rw [HLD.out]; exact hcut))
      go_wp2_with fail
      refine (c_number_cut g s (p + q + 1) k 0 _ HB1.out hs hp1 (by omega) (.inr (by omega))).mono ?_; rintro e w2 ⟨rfl, hbk, hg⟩
      have c2 := hbk.cell 2
      simp at c2
      have HB2 := hide hbk; have HG2 := hide (HG1.out.trans hg); clear hbk hg
      go_wp2_with fail
      refine (c_unfold m _ (by omega)).mono ?_; rintro e _ ⟨rfl, rfl⟩
      go_wp2
      go_ret
      exact SaR.mkE HS.out (by decide) HB2.out HG2.out
    · have hr := readF_lt s.data.toList (p + q + 1) k
      have hr2 : readF s.data.toList (p + q + 1) k < 4294967296 := Nat.lt_of_lt_of_le hr (Nat.pow_le_pow_right (n := 2) (by omega) (show k ≤ 32 by omega))
      clear hr
      have HS1 := hide (fun h => samp_bad2 (k := k) hlt HQ.out (by rw [HLD.out]; exact hcut) h)
      have HS2 := hide (fun h => samp_ok2 (k := k) hlt HQ.out (by rw [HLD.out]; exact hcut) h)
      rw [HM.out] at HS1 HS2
      go_wp2_with fail
      refine (c_number_ok g s (p + q + 1) k _ HB1.out HBT.out hs (by omega) (by omega)).mono ?_; rintro e w2 ⟨rfl, hbk, hg⟩
      have c2 := hbk.cell 2; have f2 := hbk.free 2
      simp at c2
      have HB2 := hide hbk; have HG2 := hide (HG1.out.trans hg); clear hbk hg
      generalize readF s.data.toList (p + q + 1) k = n at *
      obtain ⟨t, ht⟩ : ∃ t, m + n = t := ⟨_, rfl⟩
      have e2 : (m : Int) + (n : Int) = (t : Int) := by omega
      have htb : t ≤ 1099511627776 := by omega
      rw [ht] at HS1 HS2
      have HT := hide ht; clear ht
      by_cases hbig : 4294967295 < t
      · have HBG := hide hbig
        have hbi : (4294967295 : Int) < (t : Int) := by omega
        clear hbig
        go_wp2_with fail
        refine (c_unfold t _ htb).mono ?_; rintro e _ ⟨rfl, rfl⟩
        go_wp2
        go_ret
        exact SaR.mkE (HS1.out HBG.out) (by decide) (HB2.out.set_ 2 _) (HG2.out.set_ 2 _)
      · have HBG := hide hbig
        have hbi : ¬ (4294967295 : Int) < (t : Int) := by omega
        clear hbig
        go_wp2_with fail
        refine (c_unfold t _ htb).mono ?_; rintro e _ ⟨rfl, rfl⟩
        go_wp2
        go_ret
        exact SaR.mk0 (HS2.out HBG.out) HB2.out HG2.out
end Go.Proofs.YtpmflkoepnanoaaDoor
