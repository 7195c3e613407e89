/- Contract: all samples of a text of bits; the other side. -/
import Derived.Test.YtjapidcbfnknkaaDoorIe
namespace Go.Proofs.YtjapidcbfnknkaaDoor
open Go.RowKit
set_option maxHeartbeats 1000000 in
set_option maxRecDepth 100000 in
theorem c_l29Decode (s : ByteArray) (n k : Nat) (w : World) (hb : Bits s.data.toList) (hs : s.size ≤ 1073741824) (hn : n ≤ 1048576) (hk30 : k ≤ 30) :
    Calls Tryd.prog 73 #[.string s, .int .i64 (n : Int), .int .i64 (k : Int)] w (DecR s k n w) := by
  have HBT := hide hb; clear hb
  go_enter Tryd.func73, Tryd.ntmps73
  go_wp2
  go_loopw [9, 10] (fun t a wr => ∃ (p : Nat) (acc : List Int), a = .int .i64 p ∧ p ≤ s.size ∧ acc.length ≤ n ∧ decF s.data.toList k (n - acc.length) p acc = decF s.data.toList k n 0 [] ∧ OwI 2 wr w.heap.size t acc ∧ Below w.heap.size w wr) (fun _ a _ => s.size - (intOf a).toNat)
  case atStart => exact ⟨0, [], rfl, Nat.zero_le _, Nat.zero_le _, rfl, new_i64 w, (Below.refl _ _).alloc (Nat.le_refl _) _⟩
  case round =>
    obtain ⟨p, acc, rfl, hp, hal, hdec, ho, hb⟩ := hrel
    obtain ⟨A, cap, rfl, hl, hc, _⟩ := ho.rd.open_
    have HO := hide ho; have HB := hide hb; have HD := hide hdec; have hsz := hb.size
    clear ho hb hdec
    by_cases hlt : acc.length < n
    · have HSC := hide (sampF_code s.data.toList p k)
      have HSO := hide (fun h => sampF_ok (l := s.data.toList) (p := p) (k := k) h)
      have HSA := hide (c_l29Sample s p k · HBT.out hs hp hk30)
      have HLD := hide (len_data s)
      obtain ⟨x, p1, c, hx⟩ : ∃ x p1 c, sampF s.data.toList p k = (x, p1, c) := ⟨_, _, _, rfl⟩
      have HX := hide hx
      rw [hx] at HSC HSO
      clear hx
      go_wp2_with fail
      refine (HSA.out _).mono ?_; rintro e w1 ⟨rfl, n1, rfl⟩; rw [HX.out]
      by_cases hc0 : c = 0
      · subst hc0
        obtain ⟨_, hp2, hp3⟩ := HSO.out rfl
        replace hp2 : p < p1 := hp2
        replace hp3 : p1 ≤ s.size := by rw [← HLD.out]; exact hp3
        have HN := hide (show decF s.data.toList k (n - (acc ++ [x]).length) p1 (acc ++ [x]) = decF s.data.toList k n 0 [] by
          rw [← HD.out, show n - acc.length = (n - (acc ++ [x]).length) + 1 by simp; omega]
          exact (decF_go HX.out).symm)
        have hal1 : acc.length + 1 ≤ 17592186044416 := by omega
        go_wp2_with (at_builtin; refine app1_i64 rfl _ _ rfl rfl (show OwI _ _ _ _ _ from HO.out) rfl hal1 hsz ?_; intro v1 w2 ho1 hg2 hv1; have hb2 := below_own (Dr.below HB.out ⟨n1, rfl⟩) HO.out hg2 (Nat.le_refl _) hsz; have HO2 := hide ho1; have HB2 := hide hb2; clear ho1 hb2 hg2 hv1)
        go_roundw
        case rel => exact ⟨p1, acc ++ [x], by go_num, hp3, by simp; omega, HN.out, HO2.out, HB2.out⟩
        case measure => first | (simp [intOf]; done) | (simp [intOf]; omega)
      · have HN := hide (show decF s.data.toList k n 0 [] = ([], 0, c) by
          rw [← HD.out, show n - acc.length = (n - (acc.length + 1)) + 1 by omega]
          exact decF_no HX.out hc0)
        have ht : (c != 0) = true := by simpa using hc0
        clear hc0
        go_wp2
        refine bodyPost_ret (results_tmp3 rfl _ _ _) rfl ?_
        exact DecR.mkE HN.out (Dr.below HB.out ⟨n1, rfl⟩)
    · have hle : acc.length = n := by omega
      go_wp2
      refine bodyPost_ret (results_tmp3 rfl _ _ _) rfl ?_
      exact DecR.mk0 (p := p) (by rw [← HD.out, hle, Nat.sub_self]; rfl) HO.out HB.out
end Go.Proofs.YtjapidcbfnknkaaDoor
