/- Contracts: the reader of codes. -/
import Derived.Test.YtpmflkoepnanoaaDoorIa
import Derived.Test.YtpmflkoepnanoaaDoorLk
namespace Go.Proofs.YtpmflkoepnanoaaDoor
open Go.RowKit
/-- What the ones' reader leaves. -/
def OnR (g : Nat) (s : ByteArray) (p : Nat) (w : World) (e : Ending) (w' : World) : Prop := ∃ (q p' : Nat) (c : Int), e = .returned (.int .i64 (q : Int)) ∧ Bk w' g 122 #[.string s, .int .i64 (p' : Int), .int .i64 c] ∧ Gr g w w' ∧ p' ≤ s.size ∧
  ((onesF s.data.toList 20 p = 20 ∧ q = 20 ∧ p' = p + 20 ∧ c = 0) ∨ (onesF s.data.toList 20 p < 20 ∧ p + onesF s.data.toList 20 p = s.size ∧ q = 0 ∧ c = 11) ∨ (onesF s.data.toList 20 p < 20 ∧ q = onesF s.data.toList 20 p ∧ p' = p + onesF s.data.toList 20 p + 1 ∧ c = 0))
theorem onesF_step {l : List UInt8} {f p : Nat} (h : bitN l p = 1) : onesF l (f + 1) p = onesF l f (p + 1) + 1 := by simp only [onesF]; rw [if_pos h]
theorem onesF_stop {l : List UInt8} {f p : Nat} (h : bitN l p = 0) : onesF l f p = 0 := by
  cases f with
  | zero => rfl
  | succ f => simp only [onesF]; rw [if_neg (by omega)]
set_option maxHeartbeats 1000000 in
set_option maxRecDepth 100000 in
theorem c_ones (g : Nat) (s : ByteArray) (p : Nat) (w : World) (hk : Bk w g 122 #[.string s, .int .i64 (p : Int), .int .i64 0]) (hb : Bits s.data.toList) (hs : s.size ≤ 1073741824) (hp : p ≤ s.size) :
    Calls Tryd.prog 135 #[.pointer (some ⟨g, 0, none⟩)] w (OnR g s p w) := by
  have HK := hide hk; have HBT := hide hb; clear hk hb
  go_enter Tryd.func135, Tryd.ntmps135
  go_wp2
  go_loopw [3] (fun i wr => ∃ q : Nat, q ≤ 20 ∧ i = .int .i64 q ∧ Bk wr g 122 #[.string s, .int .i64 ((p + q : Nat) : Int), .int .i64 0] ∧ Gr g w wr ∧ p + q ≤ s.size ∧ onesF s.data.toList 20 p = onesF s.data.toList (20 - q) (p + q) + q) (fun i _ => 20 - (intOf i).toNat)
  case atStart => exact ⟨0, by omega, rfl, HK.out, Gr.refl _ _, hp, rfl⟩
  case round =>
    obtain ⟨q, hq, rfl, hbk, hgr, hpq, hon⟩ := hrel
    have c0 := hbk.cell 0; have c1 := hbk.cell 1; have c2 := hbk.cell 2
    have f0 := hbk.free 0; have f1 := hbk.free 1; have f2 := hbk.free 2
    simp at c0 c1 c2
    have HBK := hide hbk; have HG := hide hgr; have HON := hide hon; clear hbk hgr hon
    by_cases hlt : q < 20
    · by_cases he : p + q = s.size
      · have hz : onesF s.data.toList (20 - q) (p + q) = 0 := onesF_stop (bitN_end (by rw [len_data]; omega))
        have HZ := hide (show onesF s.data.toList 20 p = q by rw [HON.out, hz]; omega); clear hz
        have ht : ((p : Int) + (q : Int) == (s.size : Int)) = true := by simp; omega
        go_wp2
        go_quiet (fail)
        go_wp2
        go_ret
        exact ⟨0, p + q, 11, rfl, (HBK.out.drewN _).set_ 2 _, (HG.out.drewN _).set_ 2 _, hpq, .inr (.inl ⟨by rw [HZ.out]; exact hlt, by rw [HZ.out]; exact he, rfl, rfl⟩)⟩
      · have hlt2 : p + q < s.size := by omega
        have hg := bA_get hlt2
        have HBB := hide (bA_bit HBT.out hlt2)
        have a1 : (p : Int) + (q : Int) < (s.size : Int) := by omega
        have a3 : IntKind.i64.wrap ((p : Int) + (q : Int)) = (p : Int) + (q : Int) := IntWalk.i64_in _ (by omega)
        have a4 : ((p : Int) + (q : Int)).toNat = p + q := by omega
        have a5 : (0 : Int) ≤ (p : Int) + (q : Int) := by omega
        have hb1 : 48 ≤ bA s (p + q) ∧ bA s (p + q) ≤ 49 := by rcases HBB.out with h | h <;> omega
        by_cases h1 : bA s (p + q) = 49
        · have HON1 := hide (show onesF s.data.toList 20 p = onesF s.data.toList (20 - (q + 1)) (p + (q + 1)) + (q + 1) by
            have hz : bitN s.data.toList (p + q) = 1 := by rcases HBB.out with h | h <;> omega
            rw [HON.out, show 20 - q = (20 - (q + 1)) + 1 by omega, onesF_step hz, Nat.add_assoc p q 1]; omega)
          have ht : ((bA s (p + q) : Int) == 48) = false := by simp; omega
          generalize bA s (p + q) = z at *
          clear HBB
          go_wp2
          go_quiet (fail)
          go_wp2
          go_quiet (fail)
          go_wp2
          go_roundw
          case rel => exact ⟨q + 1, by omega, by go_num, ((HBK.out.drewN _).set_ 1 _).drewN _, ((HG.out.drewN _).set_ 1 _).drewN _, by omega, HON1.out⟩
          case measure => first | (simp [intOf]; done) | (simp [intOf]; omega)
        · have HON1 := hide (show onesF s.data.toList 20 p = q by
            have hz : bitN s.data.toList (p + q) = 0 := by rcases HBB.out with h | h <;> omega
            rw [HON.out, onesF_stop hz]; omega)
          have ht : ((bA s (p + q) : Int) == 48) = true := by simp; omega
          generalize bA s (p + q) = z at *
          clear HBB
          go_wp2
          go_quiet (fail)
          go_wp2
          go_quiet (fail)
          go_wp2
          go_ret
          exact ⟨q, p + q + 1, 0, rfl, ((HBK.out.drewN _).set_ 1 _).drewN _, ((HG.out.drewN _).set_ 1 _).drewN _, by omega, .inr (.inr ⟨by rw [HON1.out]; exact hlt, HON1.out.symm, by rw [HON1.out], rfl⟩)⟩
    · obtain rfl : q = 20 := by omega
      go_wp2
      go_ret
      exact ⟨20, p + 20, 0, rfl, HBK.out, HG.out, hpq, .inl ⟨HON.out, rfl, rfl, rfl⟩⟩
set_option maxHeartbeats 1000000 in
set_option maxRecDepth 100000 in
theorem c_number_cut (g : Nat) (s : ByteArray) (p n : Nat) (c : Int) (w : World) (hk : Bk w g 122 #[.string s, .int .i64 (p : Int), .int .i64 c]) (hs : s.size ≤ 1073741824) (hp : p ≤ s.size) (hn : n ≤ 32) (h : c ≠ 0 ∨ ¬ p + n ≤ s.size) :
    Calls Tryd.prog 136 #[.pointer (some ⟨g, 0, none⟩), .int .i64 (n : Int)] w fun e w' => e = .returned (.int .i64 0) ∧ Bk w' g 122 #[.string s, .int .i64 (p : Int), .int .i64 11] ∧ Gr g w w' := by
  have c0 := hk.cell 0; have c1 := hk.cell 1; have c2 := hk.cell 2
  have f0 := hk.free 0; have f1 := hk.free 1; have f2 := hk.free 2
  simp at c0 c1 c2
  have HK := hide hk; clear hk
  by_cases hc : c = 0
  · subst hc
    have hl : (s.size : Int) - (p : Int) < (n : Int) := by omega
    have e1 : IntKind.i64.wrap ((s.size : Int) - (p : Int)) = (s.size : Int) - (p : Int) := IntWalk.i64_in _ (by omega)
    have ht : decide ((s.size : Int) - (p : Int) < (n : Int)) = true := by simpa using hl
    go_enter Tryd.func136, Tryd.ntmps136
    go_wp2
    go_quiet (fail)
    go_wp2
    go_ret
    exact ⟨rfl, (HK.out.drewN _).set_ 2 _, ((Gr.refl g w).drewN _).set_ 2 _⟩
  · have ht : (c != 0) = true := by simpa using hc
    go_enter Tryd.func136, Tryd.ntmps136
    go_wp2
    go_quiet (fail)
    go_wp2
    go_ret
    exact ⟨rfl, (HK.out.drewN _).set_ 2 _, ((Gr.refl g w).drewN _).set_ 2 _⟩
set_option maxHeartbeats 1000000 in
set_option maxRecDepth 100000 in
theorem c_number_ok (g : Nat) (s : ByteArray) (p n : Nat) (w : World) (hk : Bk w g 122 #[.string s, .int .i64 (p : Int), .int .i64 0]) (hb : Bits s.data.toList) (hs : s.size ≤ 1073741824) (h : p + n ≤ s.size) (hn : n ≤ 32) :
    Calls Tryd.prog 136 #[.pointer (some ⟨g, 0, none⟩), .int .i64 (n : Int)] w fun e w' => e = .returned (.int .i64 (readF s.data.toList p n : Int)) ∧ Bk w' g 122 #[.string s, .int .i64 ((p + n : Nat) : Int), .int .i64 0] ∧ Gr g w w' := by
  have c0 := hk.cell 0; have c1 := hk.cell 1; have c2 := hk.cell 2
  have f0 := hk.free 0; have f1 := hk.free 1; have f2 := hk.free 2
  simp at c0 c1 c2
  have HK := hide hk; have HBT := hide hb; clear hk hb
  have hl : ¬ (s.size : Int) - (p : Int) < (n : Int) := by omega
  have e1 : IntKind.i64.wrap ((s.size : Int) - (p : Int)) = (s.size : Int) - (p : Int) := IntWalk.i64_in _ (by omega)
  have ht : decide ((s.size : Int) - (p : Int) < (n : Int)) = false := by simpa using hl
  clear hl
  go_enter Tryd.func136, Tryd.ntmps136
  go_wp2
  go_quiet (fail)
  clear c0 c1 c2 f0 f1 f2 e1 ht
  go_wp2
  go_loopw [5, 29] (fun x i wr => ∃ j : Nat, j ≤ n ∧ i = .int .i64 j ∧ x = .int .i64 (readF s.data.toList p j : Int) ∧ Bk wr g 122 #[.string s, .int .i64 ((p + j : Nat) : Int), .int .i64 0] ∧ Gr g w wr) (fun _ i _ => n - (intOf i).toNat)
  case atStart => exact ⟨0, Nat.zero_le _, rfl, rfl, HK.out.drewN _, (Gr.refl g w).drewN _⟩
  case round =>
    obtain ⟨j, hj, rfl, rfl, hbk, hgr⟩ := hrel
    have c0 := hbk.cell 0; have c1 := hbk.cell 1; have c2 := hbk.cell 2
    have f0 := hbk.free 0; have f1 := hbk.free 1; have f2 := hbk.free 2
    simp at c0 c1 c2
    have HBK := hide hbk; have HG := hide hgr; clear hbk hgr
    by_cases hlt : j < n
    · have hlt2 : p + j < s.size := by omega
      have hg := bA_get hlt2
      have hr := readF_lt s.data.toList p j
      have hr2 : readF s.data.toList p j < 4294967296 := Nat.lt_of_lt_of_le hr (Nat.pow_le_pow_right (by omega) (show j ≤ 32 by omega))
      clear hr
      have HS := hide (show readF s.data.toList p (j + 1) = 2 * readF s.data.toList p j + bitN s.data.toList (p + j) from rfl)
      have HBB := hide (bA_bit HBT.out hlt2)
      have hb1 : 48 ≤ bA s (p + j) ∧ bA s (p + j) ≤ 49 := by rcases HBB.out with h | h <;> omega
      have HV := hide (show (2 * (readF s.data.toList p j : Int) + ((bA s (p + j) : Int) - 48)) = (readF s.data.toList p (j + 1) : Int) by rw [HS.out]; rcases HBB.out with h | h <;> (rw [h.1, h.2]; omega))
      have a1 : (p : Int) + (j : Int) < (s.size : Int) := by omega
      have a3 : IntKind.i64.wrap ((p : Int) + (j : Int)) = (p : Int) + (j : Int) := IntWalk.i64_in _ (by omega)
      have a4 : ((p : Int) + (j : Int)).toNat = p + j := by omega
      have a5 : (0 : Int) ≤ (p : Int) + (j : Int) := by omega
      generalize readF s.data.toList p j = x at *
      generalize hy : readF s.data.toList p (j + 1) = y at *
      have HY := hide hy; clear hy
      generalize bA s (p + j) = z at *
      have e2 : IntKind.i64.wrap (2 * (x : Int)) = 2 * (x : Int) := IntWalk.i64_in _ (by omega)
      have e3 : IntKind.u8.wrap ((z : Int) - 48) = (z : Int) - 48 := by unfold IntKind.wrap; simp [IntKind.bits, IntKind.signed]; omega
      have e4 : IntKind.i64.wrap ((z : Int) - 48) = (z : Int) - 48 := IntWalk.i64_in _ (by omega)
      have e5 : IntKind.i64.wrap (2 * (x : Int) + ((z : Int) - 48)) = 2 * (x : Int) + ((z : Int) - 48) := IntWalk.i64_in _ (by omega)
      clear HS HBB
      go_wp2
      go_quiet (fail)
      go_wp2
      go_roundw
      case rel => exact ⟨j + 1, by omega, by go_num, by rw [HY.out, ← HV.out], (HBK.out.drewN _).set_ 1 _, (HG.out.drewN _).set_ 1 _⟩
      case measure => first | (simp [intOf]; done) | (simp [intOf]; omega)
    · obtain rfl : j = n := by omega
      go_wp2
      go_ret
      exact ⟨rfl, HBK.out, HG.out⟩
end Go.Proofs.YtpmflkoepnanoaaDoor
