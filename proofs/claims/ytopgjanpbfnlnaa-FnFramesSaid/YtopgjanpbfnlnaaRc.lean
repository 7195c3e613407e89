/- Contract: a signal drawn out of a source. -/
import Derived.Test.YtopgjanpbfnlnaaRb
namespace Go.Proofs.Ytopgjanpbfnlnaa
open Go.RowKit
theorem Src.grown {w w' : World} {g : Nat} {cv : Value} {a : Nat} {row : Option Nat} (h : Src w g cv a) (hg : w.grownBy w' row) (hn : some g ≠ row) : Src w' g cv a := by obtain ⟨z, hz, hb⟩ := h; exact ⟨z, hz, hb.grown hg hn⟩
theorem OwI.grb {E : TypeId} {w w' : World} {B g : Nat} {v : Value} {xs : List Int} (h : OwI E w B v xs) (hg : w.grownBy w' (some g)) (hgB : g < B) : OwI E w' B v xs := by
  refine ⟨h.1, ?_⟩
  rcases h.2 with hn | ⟨b, cap, cur, rfl, hbg, hb, rest⟩
  · exact .inl hn
  · exact .inr ⟨b, cap, cur, rfl, hbg, by rw [hg.block b (Array.getElem?_eq_some_iff.1 hb).1 (by intro e; injection e with e; omega)]; exact hb, rest⟩
/-- A drawn signal. -/
def DrR (g : Nat) (cv : Value) (a most : Nat) (w : World) (e : Ending) (w' : World) : Prop := ∃ (v : Value) (xs : List Int) (a2 : Nat), e = .returned v ∧ OwI 2 w' w.heap.size v xs ∧ (∀ x ∈ xs, Smp x) ∧ xs.length ≤ most ∧ a2 ≤ a + 100 + 20 * most ∧ Src w' g cv a2 ∧ w.grownBy w' (some g)
set_option maxHeartbeats 2000000 in
set_option maxRecDepth 100000 in
theorem c_l29Draw (g : Nat) (cv : Value) (bs : List UInt8) (a most : Nat) (w : World) (h : Src w g cv a) (hr : RdY w cv bs) (hat : a ≤ 1000000000) (hbs : bs.length ≤ 1073741824) (hg : 0 < bs.length → ∀ b, cv.ownBlock = some b → b ≠ g) (hm : most ≤ 4000) :
    Calls Try.prog 100 #[.pointer (some ⟨g, 0, none⟩), .int .i64 (most : Int)] w (DrR g cv a most w) := by
  have H := hide h; have HR := hide hr
  have hgl : g < w.heap.size := by obtain ⟨z, _, hb⟩ := h; exact hb.lt
  have HGL := hide hgl
  clear h hr hgl
  have HN := hide (new_i64 w)
  have HA := hide (World.grownBy_alloc w (.cells #[] 2) (some g))
  have HHD := hide hg; clear hg
  go_enter Try.func100, Try.ntmps100
  go_wp2_with fail
  refine (c_l01Draw g cv bs a _ (H.out.alloc _) (Rd.alloc HR.out _) (by omega) hbs HHD.out).mono ?_; rintro e w1 ⟨x0, a1, rfl, hx0, ha1, hs1, hg1⟩
  have HS1 := hide hs1; have HG1 := hide (HA.out.trans hg1); have HO1 := hide (HN.out.grb hg1 HGL.out); clear hs1 hg1
  have HR1 := hide (HR.out.gro HG1.out HHD.out)
  go_wp2_with fail
  refine (c_pick g cv bs a1 200 _ HS1.out HR1.out (by omega) hbs HHD.out (by omega)).mono ?_; rintro e w2 ⟨x1, a2, rfl, hx1, ha2, hs2, hg2⟩
  have HS2 := hide hs2; have HG2 := hide (HG1.out.trans hg2.1); have HO2 := hide (HO1.out.grb hg2.1 HGL.out); clear hs2 hg2
  have HR2 := hide (HR.out.gro HG2.out HHD.out)
  go_wp2_with fail
  refine (c_pick g cv bs a2 4 _ HS2.out HR2.out (by omega) hbs HHD.out (by omega)).mono ?_; rintro e w3 ⟨kd, a3, rfl, hkd, ha3, hs3, hg3⟩
  have HS3 := hide hs3; have HG3 := hide (HG2.out.trans hg3.1); have HO3 := hide (HO2.out.grb hg3.1 HGL.out); clear hs3 hg3
  have HR3 := hide (HR.out.gro HG3.out HHD.out)
  obtain ⟨ki, hki⟩ : ∃ ki : Int, (kd : Int) = ki := ⟨_, rfl⟩
  rw [hki]
  have HKI := hide (show ki = 0 ∨ ki = 1 ∨ ki = 2 ∨ ki = 3 by omega)
  clear hki hkd
  go_wp2_with fail
  refine (c_pick g cv bs a3 (most + 1) _ HS3.out HR3.out (by omega) hbs HHD.out (by omega)).mono ?_; rintro e w4 ⟨K, a4, rfl, hK, ha4, hs4, hg4⟩
  have HS4 := hide hs4; have HG4 := hide (HG3.out.trans hg4.1); have HO4 := hide (HO3.out.grb hg4.1 HGL.out); clear hs4 hg4
  go_wp2
  go_loopw [5, 6, 7, 9] (fun o xx ss kk wr => ∃ (k c : Nat) (x st : Int) (out : List Int), k ≤ K ∧ kk = .int .i64 k ∧ xx = .int .i64 x ∧ ss = .int .i64 st ∧ Smp x ∧ -(200 + ((K : Int) - k)) ≤ st ∧ st ≤ 200 + ((K : Int) - k) ∧ (∀ y ∈ out, Smp y) ∧ out.length + k = K ∧ c ≤ a4 + 12 * (K - k) ∧ Src wr g cv c ∧ OwI 2 wr w.heap.size o out ∧ w.grownBy wr (some g)) (fun _ _ _ kk _ => (intOf kk).toNat)
  case atStart => exact ⟨K, a4, x0, (x1 : Int) - 100, [], Nat.le_refl _, rfl, rfl, rfl, hx0, by omega, by omega, by simp, by simp, by omega, HS4.out, HO4.out, HG4.out⟩
  case round =>
    obtain ⟨k, c, x, st, out, hkK, rfl, rfl, rfl, hxs, hst1, hst2, hos, hol, hc, hs, ho, hgb⟩ := hrel
    have HS := hide hs; have HO := hide ho; have HG := hide hgb; have HOS := hide hos; have hsz : w.heap.size ≤ wr.heap.size := hgb.size
    clear hs ho hgb hos
    by_cases hk : 0 < k
    · have hal : out.length + 1 ≤ 17592186044416 := by omega
      have HOS2 := hide (show ∀ y ∈ out ++ [x], Smp y from fun y hy => by
        simp only [List.mem_append, List.mem_singleton] at hy
        rcases hy with hy | rfl
        · exact HOS.out y hy
        · exact hxs)
      rcases HKI.out with hi | hi | hi | hi
      · have t0 : (ki == 0) = true := by rw [hi]; rfl
        have HI := hide hi; clear hi
        go_wp2_with (at_builtin; refine app1_i64 rfl _ _ rfl rfl HO.out rfl hal hsz ?_; intro v5 w5 ho5 hg5 hv5; have hlo := (fun j (e : _ = some j) => (HO.out.lt j e).1); have HO5 := hide ho5; have HG5 := hide (HG.out.andThen hg5 (fun j e => .inl (HO.out.lt j e).1)); have HS5 := hide (HS.out.grown hg5 (fun e => by have h1 := (HO.out.lt _ e.symm).1; have h2 := HGL.out; omega)); have HR5 := hide (HR.out.gro HG5.out HHD.out); clear ho5 hg5 hv5 hlo)
        refine (c_l01Draw g cv bs c _ HS5.out HR5.out (by omega) hbs HHD.out).mono ?_; rintro e w6 ⟨y, c2, rfl, hy, hc2, hs6, hg6⟩
        have HS6 := hide hs6; have HG6 := hide (HG5.out.trans hg6); have HO6 := hide (HO5.out.grb hg6 HGL.out); clear hs6 hg6
        go_wp2
        go_roundw
        case rel => exact ⟨k - 1, c2, y, st, out ++ [x], by omega, by go_num, rfl, rfl, hy, by omega, by omega, HOS2.out, by rw [List.length_append]; simp; omega, by omega, HS6.out, HO6.out, HG6.out⟩
        case measure => first | (simp [intOf]; done) | (simp [intOf]; omega)
      · have t0 : (ki == 0) = false := by rw [hi]; rfl
        have t1 : (ki == 1) = true := by rw [hi]; rfl
        have HI := hide hi; clear hi
        go_wp2_with (at_builtin; refine app1_i64 rfl _ _ rfl rfl HO.out rfl hal hsz ?_; intro v5 w5 ho5 hg5 hv5; have hlo := (fun j (e : _ = some j) => (HO.out.lt j e).1); have HO5 := hide ho5; have HG5 := hide (HG.out.andThen hg5 (fun j e => .inl (HO.out.lt j e).1)); have HS5 := hide (HS.out.grown hg5 (fun e => by have h1 := (HO.out.lt _ e.symm).1; have h2 := HGL.out; omega)); have HR5 := hide (HR.out.gro HG5.out HHD.out); clear ho5 hg5 hv5 hlo)
        refine (c_pick g cv bs c 9 _ HS5.out HR5.out (by omega) hbs HHD.out (by omega)).mono ?_; rintro e w6 ⟨y, c2, rfl, hy, hc2, hs6, hg6⟩
        have HS6 := hide hs6; have HG6 := hide (HG5.out.trans hg6.1); have HO6 := hide (HO5.out.grb hg6.1 HGL.out); clear hs6 hg6
        go_wp2_with fail
        refine (c_sAdd x _ _ hxs (by omega)).mono ?_; rintro e w7 ⟨⟨x2, rfl, hx2⟩, rfl⟩
        go_wp2
        go_roundw
        case rel => exact ⟨k - 1, c2, x2, st, out ++ [x], by omega, by go_num, rfl, rfl, hx2, by omega, by omega, HOS2.out, by rw [List.length_append]; simp; omega, by omega, HS6.out, HO6.out, HG6.out⟩
        case measure => first | (simp [intOf]; done) | (simp [intOf]; omega)
      · have t0 : (ki == 0) = false := by rw [hi]; rfl
        have t1 : (ki == 1) = false := by rw [hi]; rfl
        have t2 : (ki == 2) = true := by rw [hi]; rfl
        have HI := hide hi; clear hi
        go_wp2_with (at_builtin; refine app1_i64 rfl _ _ rfl rfl HO.out rfl hal hsz ?_; intro v5 w5 ho5 hg5 hv5; have hlo := (fun j (e : _ = some j) => (HO.out.lt j e).1); have HO5 := hide ho5; have HG5 := hide (HG.out.andThen hg5 (fun j e => .inl (HO.out.lt j e).1)); have HS5 := hide (HS.out.grown hg5 (fun e => by have h1 := (HO.out.lt _ e.symm).1; have h2 := HGL.out; omega)); have HR5 := hide (HR.out.gro HG5.out HHD.out); clear ho5 hg5 hv5 hlo)
        refine (c_sAdd x _ _ hxs (by omega)).mono ?_; rintro e w7 ⟨⟨x2, rfl, hx2⟩, rfl⟩
        go_wp2_with fail
        refine (c_pick g cv bs c 3 _ HS5.out HR5.out (by omega) hbs HHD.out (by omega)).mono ?_; rintro e w6 ⟨y, c2, rfl, hy, hc2, hs6, hg6⟩
        have HS6 := hide hs6; have HG6 := hide (HG5.out.trans hg6.1); have HO6 := hide (HO5.out.grb hg6.1 HGL.out); clear hs6 hg6
        go_wp2
        go_roundw
        case rel => exact ⟨k - 1, c2, x2, st + ((y : Int) - 1), out ++ [x], by omega, by go_num, rfl, by first | rfl | go_num, hx2, by omega, by omega, HOS2.out, by rw [List.length_append]; simp; omega, by omega, HS6.out, HO6.out, HG6.out⟩
        case measure => first | (simp [intOf]; done) | (simp [intOf]; omega)
      · have t0 : (ki == 0) = false := by rw [hi]; rfl
        have t1 : (ki == 1) = false := by rw [hi]; rfl
        have t2 : (ki == 2) = false := by rw [hi]; rfl
        have HI := hide hi; clear hi
        go_wp2_with (at_builtin; refine app1_i64 rfl _ _ rfl rfl HO.out rfl hal hsz ?_; intro v5 w5 ho5 hg5 hv5; have hlo := (fun j (e : _ = some j) => (HO.out.lt j e).1); have HO5 := hide ho5; have HG5 := hide (HG.out.andThen hg5 (fun j e => .inl (HO.out.lt j e).1)); have HS5 := hide (HS.out.grown hg5 (fun e => by have h1 := (HO.out.lt _ e.symm).1; have h2 := HGL.out; omega)); have HR5 := hide (HR.out.gro HG5.out HHD.out); clear ho5 hg5 hv5 hlo)
        refine (c_pick g cv bs c 40 _ HS5.out HR5.out (by omega) hbs HHD.out (by omega)).mono ?_; rintro e w6 ⟨y, c2, rfl, hy, hc2, hs6, hg6⟩
        have HS6 := hide hs6; have HG6 := hide (HG5.out.trans hg6.1); have HO6 := hide (HO5.out.grb hg6.1 HGL.out); clear hs6 hg6
        go_wp2
        go_roundw
        case rel => exact ⟨k - 1, c2, (y : Int) - 20, st, out ++ [x], by omega, by go_num, rfl, rfl, by unfold Smp; omega, by omega, by omega, HOS2.out, by rw [List.length_append]; simp; omega, by omega, HS6.out, HO6.out, HG6.out⟩
        case measure => first | (simp [intOf]; done) | (simp [intOf]; omega)
    · obtain rfl : k = 0 := by omega
      go_wp2
      go_ret
      exact ⟨_, out, c, rfl, HO.out, HOS.out, by omega, by omega, HS.out, HG.out⟩
end Go.Proofs.Ytopgjanpbfnlnaa
