/- Contracts: all samples of a text of bits; both sides. Contracts: samples out of a text of bits; the other side. Contract: all samples of a text of bits; the other side. -/
import Derived.Test.YtpmflkoepnanoaaDoorIc
import Derived.Test.YtpmflkoepnanoaaDoorAb
import Derived.Test.YtpmflkoepnanoaaDoorGa
namespace Go.Proofs.YtpmflkoepnanoaaDoor
section
open Go.RowKit
theorem OwI.gr {E : TypeId} {w w' : World} {B g : Nat} {v : Value} {xs : List Int} (h : OwI E w B v xs) (hg : Gr g w w') (hgB : g < B) : OwI E w' B v xs := by
  refine ⟨h.1, ?_⟩
  rcases h.2 with hn | ⟨b, cap, cur, rfl, hbg, hb, rest⟩
  · exact .inl hn
  · exact .inr ⟨b, cap, cur, rfl, hbg, by rw [hg.1.block b (Array.getElem?_eq_some_iff.1 hb).1 (by intro e; injection e with e; omega)]; exact hb, rest⟩
def DecR (s : ByteArray) (k n : Nat) (w : World) (e : Ending) (w' : World) : Prop := ∃ v, e = .returned (.tuple #[v, .int .i64 ((decF s.data.toList k n 0 []).2.1 : Int), .int .i64 (decF s.data.toList k n 0 []).2.2]) ∧ OwI 2 w' w.heap.size v (decF s.data.toList k n 0 []).1 ∧ Below w.heap.size w w'
theorem DecR.mkE {s : ByteArray} {k n : Nat} {w w' : World} {c : Int} (h : decF s.data.toList k n 0 [] = ([], 0, c)) (hb : Below w.heap.size w w') : DecR s k n w (.returned (.tuple #[.slice none 0 0, .int .i64 0, .int .i64 c])) w' :=
  ⟨_, by rw [h]; rfl, by rw [h]; exact OwI.nil_ _ _ _, hb⟩
theorem DecR.mk0 {s : ByteArray} {k n : Nat} {w w' : World} {v : Value} {xs : List Int} {p : Nat} (h : decF s.data.toList k n 0 [] = (xs, p, 0)) (ho : OwI 2 w' w.heap.size v xs) (hb : Below w.heap.size w w') : DecR s k n w (.returned (.tuple #[v, .int .i64 (p : Int), .int .i64 0])) w' :=
  ⟨_, by rw [h], by rw [h]; exact ho, hb⟩
set_option maxHeartbeats 1000000 in
set_option maxRecDepth 100000 in
theorem c_decodeRice (s : ByteArray) (n k : Nat) (w : World) (hb : Bits s.data.toList) (hs : s.size ≤ 1073741824) (hn : n ≤ 1048576) (hk30 : k ≤ 30) :
    Calls Tryd.prog 56 #[.string s, .int .i64 (n : Int), .int .i64 (k : Int)] w (DecR s k n w) := by
  have HBT := hide hb; clear hb
  go_enter Tryd.func56, Tryd.ntmps56
  go_wp2
  go_loopw [10, 16] (fun t i wr => ∃ (j p : Nat) (acc : List Int), j ≤ n ∧ i = .int .i64 j ∧ p ≤ s.size ∧ acc.length = j ∧ decF s.data.toList k (n - j) p acc = decF s.data.toList k n 0 [] ∧ Bk wr w.heap.size 122 #[.string s, .int .i64 (p : Int), .int .i64 0] ∧ OwI 2 wr (w.heap.size + 1) t acc ∧ Below w.heap.size w wr) (fun _ i _ => n - (intOf i).toNat)
  case atStart => exact ⟨0, 0, [], Nat.zero_le _, rfl, Nat.zero_le _, rfl, rfl, (Bk.born _ _ _).alloc _, by have := new_i64 (w.alloc (.cells #[.string s, .int .i64 0, .int .i64 0] 122)); simpa using this, ((Below.refl _ _).alloc (Nat.le_refl _) _).alloc (by simp) _⟩
  case round =>
    obtain ⟨j, p, acc, hj, rfl, hp, hal, hdec, hbk, ho, hb⟩ := hrel
    have hlt0 := hbk.lt
    have HBK := hide hbk; have HO := hide ho; have HB := hide hb; have HD := hide hdec; have HAL := hide hal; have hsz := hb.size
    by_cases hlt : j < n
    · clear hbk ho hb hdec hal
      have HSC := hide (sampF_code s.data.toList p k)
      have HSO := hide (fun h => sampF_ok (l := s.data.toList) (p := p) (k := k) h)
      go_wp2_with fail
      refine (c_sample w.heap.size s p k _ HBK.out HBT.out hs hp hk30).mono ?_; rintro e w1 ⟨x, p1, c, rfl, hbk1, hg1, hc1, hok⟩
      have HBK1 := hide hbk1; have HO1 := hide (HO.out.gr hg1 (by omega)); have HB1 := hide (Gr.below HB.out hg1 (Nat.le_refl _) hsz); have hsz1 := hg1.2
      have hal1 : acc.length + 1 ≤ 17592186044416 := by have := HAL.out; omega
      have hB1 : w.heap.size + 1 ≤ w1.heap.size := by omega
      have hB2 : w.heap.size ≤ w1.heap.size := by omega
      have HSZ := hide hsz1; have HC := hide hc1; have HOK := hide hok; clear hbk1 hg1 hc1 hok HBK HO HB hsz1
      by_cases hc0 : c = 0
      · subst hc0
        obtain ⟨hx, hp1⟩ := HOK.out rfl
        obtain ⟨_, _, hp3⟩ := HSO.out HC.out.symm
        rw [← hp1, len_data] at hp3
        have HN := hide (show decF s.data.toList k (n - (j + 1)) p1 (acc ++ [x]) = decF s.data.toList k n 0 [] by
          rw [← HD.out, show n - j = (n - (j + 1)) + 1 by omega]
          exact (decF_go (by rw [hx, hp1, HC.out])).symm)
        clear hx hp1
        go_wp2_with (at_builtin; refine app1_i64 rfl _ _ rfl rfl HO1.out rfl hal1 hB1 ?_; intro v1 w2 ho1 hg2 hv1; have hb2 := below_own HB1.out HO1.out hg2 (by omega) hB2; have hbk2 := HBK1.out.grown hg2 (fun e => by have := (HO1.out.lt _ e.symm).1; omega); have c0 := hbk2.cell 0; have c1 := hbk2.cell 1; have c2 := hbk2.cell 2; have f0 := hbk2.free 0; have f1 := hbk2.free 1; have f2 := hbk2.free 2; simp at c0 c1 c2; have HO2 := hide ho1; have HB2 := hide hb2; have HBK2 := hide hbk2; clear ho1 hb2 hbk2 hg2 hv1)
        go_roundw
        case rel => exact ⟨j + 1, p1, acc ++ [x], by omega, by go_num, hp3, by simp [HAL.out], HN.out, HBK2.out, HO2.out, HB2.out⟩
        case measure => first | (simp [intOf]; done) | (simp [intOf]; omega)
      · have HN := hide (show decF s.data.toList k n 0 [] = ([], 0, c) by
          rw [← HD.out, show n - j = (n - (j + 1)) + 1 by omega]
          exact decF_no (x := (sampF s.data.toList p k).1) (q := (sampF s.data.toList p k).2.1) (by rw [HC.out]) hc0)
        have ht : (c != 0) = true := by simpa using hc0
        clear hc0
        go_wp2_with (at_builtin; refine app1_i64 rfl _ _ rfl rfl HO1.out rfl hal1 hB1 ?_; intro v1 w2 ho1 hg2 hv1; have hb2 := below_own HB1.out HO1.out hg2 (by omega) hB2; have hbk2 := HBK1.out.grown hg2 (fun e => by have := (HO1.out.lt _ e.symm).1; omega); have c0 := hbk2.cell 0; have c1 := hbk2.cell 1; have c2 := hbk2.cell 2; have f0 := hbk2.free 0; have f1 := hbk2.free 1; have f2 := hbk2.free 2; simp at c0 c1 c2; have HO2 := hide ho1; have HB2 := hide hb2; have HBK2 := hide hbk2; clear ho1 hb2 hbk2 hg2 hv1)
        go_quiet (fail)
        go_wp2
        refine bodyPost_ret (results_tmp3 rfl _ _ _) rfl ?_
        exact DecR.mkE HN.out (below_drewN HB2.out _)
    · obtain rfl : j = n := by omega
      have c0 := hbk.cell 0; have c1 := hbk.cell 1; have c2 := hbk.cell 2
      have f0 := hbk.free 0; have f1 := hbk.free 1; have f2 := hbk.free 2
      simp at c0 c1 c2
      clear hbk ho hb hdec hal
      go_wp2
      go_quiet (fail)
      go_wp2
      refine bodyPost_ret (results_tmp3 rfl _ _ _) rfl ?_
      refine DecR.mk0 (p := p) (by rw [← HD.out, Nat.sub_self]; rfl) (HO.out.more (by omega)) ?_
      exact below_drewN HB.out _
end
section
open Go.RowKit
def SsR (s : ByteArray) (p k : Nat) (w : World) (e : Ending) (w' : World) : Prop := e = .returned (.tuple #[.int .i64 (sampF s.data.toList p k).1, .int .i64 ((sampF s.data.toList p k).2.1 : Int), .int .i64 (sampF s.data.toList p k).2.2]) ∧ Dr w w'
theorem SsR.mk {s : ByteArray} {p k : Nat} {w w' : World} {x : Int} {p' : Nat} {c : Int} (h : sampF s.data.toList p k = (x, p', c)) (hd : Dr w w') : SsR s p k w (.returned (.tuple #[.int .i64 x, .int .i64 (p' : Int), .int .i64 c])) w' := ⟨by rw [h], hd⟩
end
open Go.RowKit
end Go.Proofs.YtpmflkoepnanoaaDoor
