/- Contracts: the source of drawn numbers. Contracts: numbers drawn out of a source. Contract: a signal drawn out of a source. Contracts: a drawn signal, and the laws' small helpers. Contract: a long drawn signal. -/
import Derived.Test.YtpmflkoepnanoaaDoorLk
import Derived.Test.YtpmflkoepnanoaaDoorRs
import Derived.Test.YtpmflkoepnanoaaDoorAd
import Derived.Laws.Bits64b
import Derived.Test.YtpmflkoepnanoaaDoorHa
import Derived.Test.YtpmflkoepnanoaaDoorAc
namespace Go.Proofs.YtpmflkoepnanoaaDoor
section
open Go.RowKit
end
section
open Go.RowKit
def AmR (g : Nat) (cv : Value) (at' c : Nat) (p : Int → Prop) (w : World) (e : Ending) (w' : World) : Prop := ∃ (x : Int) (at2 : Nat), e = .returned (.int .i64 x) ∧ p x ∧ at2 ≤ at' + c ∧ Src w' g cv at2 ∧ w.grownBy w' (some g)
set_option maxHeartbeats 1000000 in
set_option maxRecDepth 100000 in
theorem c_among (g : Nat) (cv v : Value) (xs : List Int) (bs : List UInt8) (at' : Nat) (w : World) (h : Src w g cv at') (hr : RdY w cv bs) (hv : RdI w v xs) (hxl : 1 ≤ xs.length ∧ xs.length ≤ 60000) (hat : at' ≤ 1073741000) (hbs : bs.length ≤ 1073741824) (hg : 0 < bs.length → ∀ b, cv.ownBlock = some b → b ≠ g) (hvg : ∀ b, v.ownBlock = some b → b ≠ g) :
    Calls Tryd.prog 124 #[.pointer (some ⟨g, 0, none⟩), v] w (AmR g cv at' 2 (fun x => x ∈ xs) w) := by
  have H := hide h; have HR := hide hr; have HV := hide hv
  obtain ⟨A, cap, rfl, hl, hc, _⟩ := hv.open_
  clear h hr hv
  go_enter Tryd.func124, Tryd.ntmps124
  go_wp2_with fail
  refine (c_pick g cv bs at' xs.length _ H.out HR.out hat hbs hg hxl).mono ?_; rintro e w1 ⟨x, at2, rfl, hx, ha2, hs1, hg1⟩
  have hv1 := HV.out.grown hg1.1 (fun b e1 e2 => by injection e2 with e2; exact hvg b e1 e2)
  obtain ⟨A', cap', he, _, _, hx1⟩ := hv1.open_
  injection he with e1 _ e3
  subst e1 e3
  obtain ⟨b, off, rfl, _, hcell⟩ := hx1 x xs[x] (List.getElem?_eq_getElem hx)
  have HS1 := hide hs1; have HG1 := hide hg1; have HM := hide (List.getElem_mem hx); clear hs1 hg1 hx1 hv1
  generalize xs[x] = y at *
  go_wp2
  go_ret
  exact ⟨y, at2, rfl, HM.out, by omega, HS1.out, HG1.out.1⟩
theorem c_sAdd (a b : Int) (w : World) (ha : Smp a) (hb : -100000 ≤ b ∧ b ≤ 100000) : Calls Tryd.prog 87 #[.int .i64 a, .int .i64 b] w fun e w' => (∃ x, e = .returned (.int .i64 x) ∧ Smp x) ∧ w = w' :=
  (c_l01Add a b w ha (by unfold Smp; omega)).mono fun _ _ ⟨h1, h2⟩ => ⟨⟨_, h1, wrp_smp _⟩, h2⟩
set_option maxHeartbeats 2000000 in
set_option maxRecDepth 100000 in
theorem c_l01Draw (g : Nat) (cv : Value) (bs : List UInt8) (at' : Nat) (w : World) (h : Src w g cv at') (hr : RdY w cv bs) (hat : at' ≤ 1073740000) (hbs : bs.length ≤ 1073741824) (hg : 0 < bs.length → ∀ b, cv.ownBlock = some b → b ≠ g) :
    Calls Tryd.prog 86 #[.pointer (some ⟨g, 0, none⟩)] w (AmR g cv at' 10 Smp w) := by
  have H := hide h; have HR := hide hr
  have hgl : g < w.heap.size := by obtain ⟨z, _, hb⟩ := h; exact hb.lt
  clear h hr
  go_enter Tryd.func86, Tryd.ntmps86
  go_wp2_with fail
  refine (c_pick g cv bs at' 8 _ H.out HR.out (by omega) hbs hg (by omega)).mono ?_; rintro e w1 ⟨x, at2, rfl, hx, ha2, hs1, hg1⟩
  have HS1 := hide hs1; have HG1 := hide hg1; have HR1 := hide (HR.out.gr hg1 hg); have HSZ := hide hg1.2; clear hs1 hg1
  rcases (show x = 0 ∨ x = 1 ∨ x = 2 ∨ 3 ≤ x by omega) with rfl | rfl | rfl | h3
  · go_wp2_with fail
    have hal := World.grownBy_alloc w1 (.cells #[.int .i64 (-2147483648), .int .i64 2147483647, .int .i64 (-2147483647), .int .i64 65536, .int .i64 (-65536), .int .i64 1073741824] 2) (some g)
    have how : OwI 2 (w1.alloc (.cells #[.int .i64 (-2147483648), .int .i64 2147483647, .int .i64 (-2147483647), .int .i64 65536, .int .i64 (-65536), .int .i64 1073741824] 2)) w1.heap.size (.slice (some ⟨w1.heap.size, 0, none⟩) 6 6) [-2147483648, 2147483647, -2147483647, 65536, -65536, 1073741824] :=
      World.ownsRow_lit (base := w1.heap.size) (e := 2) (size := 1) w1 #[.int .i64 (-2147483648), .int .i64 2147483647, .int .i64 (-2147483647), .int .i64 65536, .int .i64 (-65536), .int .i64 1073741824] 6 (Nat.le_refl _) (by decide) rfl
    refine (c_among g cv _ _ bs at2 _ (HS1.out.alloc _) (Rd.alloc HR1.out _) how.rd (by decide) (by omega) hbs hg (fun b e => by injection e with e; have := HSZ.out; simp at e; omega)).mono ?_; rintro e w2 ⟨y, at3, rfl, hy, ha3, hs2, hg2⟩
    have HS2 := hide hs2; have HG2 := hide (HG1.out.1.trans (hal.trans hg2)); clear hs2 hg2 hal how
    have hys : Smp y := by simp at hy; unfold Smp; omega
    clear hy
    go_wp2
    go_ret
    exact ⟨y, at3, rfl, hys, by omega, HS2.out, HG2.out⟩
  · go_wp2_with fail
    refine (c_next g cv bs at2 _ HS1.out HR1.out (by omega) hbs).mono ?_; rintro e w2 ⟨y, rfl, hy, hs2, hg2⟩
    have HS2 := hide hs2; have HG2 := hide (HG1.out.trans hg2); have HR2 := hide (HR1.out.gr hg2 hg); clear hs2 hg2
    go_wp2
    go_loopw [3, 4] (fun nn kk wr => ∃ (k z : Nat), k ≤ 3 ∧ kk = .int .i64 k ∧ nn = .int .i64 z ∧ z < 256 ^ (k + 1) ∧ Src wr g cv (at2 + 1 + k) ∧ RdY wr cv bs ∧ Gr g w wr) (fun _ kk _ => 3 - (intOf kk).toNat)
    case atStart => exact ⟨0, y, by omega, rfl, rfl, by omega, HS2.out, HR2.out, HG2.out⟩
    case round =>
      obtain ⟨k, z, hk, rfl, rfl, hz, hs3, hr3, hg3⟩ := hrel
      have HS3 := hide hs3; have HR3 := hide hr3; have HG3 := hide hg3; clear hs3 hr3 hg3
      have hP : 256 ^ (k + 1) ≤ 256 ^ 4 := Nat.pow_le_pow_right (by omega) (by omega)
      have hP2 : 256 ^ (k + 1 + 1) = 256 ^ (k + 1) * 256 := Nat.pow_succ _ _
      by_cases hlt : k < 3
      · have HZ := hide (show ∀ y, y ≤ 255 → 256 * z + y < 256 ^ (k + 1 + 1) from fun y hy => by rw [hP2]; generalize 256 ^ (k + 1) = P at *; omega)
        have hzb : z ≤ 4294967296 := by omega
        clear hP hP2 hz
        go_wp2_with fail
        refine (c_next g cv bs (at2 + 1 + k) _ HS3.out HR3.out (by omega) hbs).mono ?_; rintro e w4 ⟨y2, rfl, hy2, hs4, hg4⟩
        have HS4 := hide hs4; have HG4 := hide (HG3.out.trans hg4); have HR4 := hide (HR3.out.gr hg4 hg); clear hs4 hg4
        go_wp2
        go_roundw
        case rel => exact ⟨k + 1, 256 * z + y2, by omega, by go_num, by go_num, HZ.out _ hy2, HS4.out, HR4.out, HG4.out⟩
        case measure => first | (simp [intOf]; done) | (simp [intOf]; omega)
      · have hzb : z ≤ 4294967296 := by omega
        clear hP hP2 hz
        obtain rfl : k = 3 := by omega
        go_wp2_with fail
        refine (c_l01Wrap _ _).mono ?_; rintro e w4 ⟨rfl, rfl⟩
        go_wp2
        go_ret
        exact ⟨_, at2 + 1 + 3, rfl, wrp_smp _, by omega, HS3.out, HG3.out.1⟩
  · go_wp2
    go_ret
    exact ⟨0, at2, rfl, by unfold Smp; omega, by omega, HS1.out, HG1.out.1⟩
  · have t0 : ((x : Int) == 0) = false := by simp; omega
    have t1 : ((x : Int) == 1) = false := by simp; omega
    have t2 : ((x : Int) == 2) = false := by simp; omega
    go_wp2_with fail
    refine (c_pick g cv bs at2 41 _ HS1.out HR1.out (by omega) hbs hg (by omega)).mono ?_; rintro e w2 ⟨y, at3, rfl, hy, ha3, hs2, hg2⟩
    have HS2 := hide hs2; have HG2 := hide (HG1.out.trans hg2); clear hs2 hg2
    go_wp2
    go_ret
    exact ⟨(y : Int) - 20, at3, rfl, by unfold Smp; omega, by omega, HS2.out, HG2.out.1⟩
end
section
open Go.RowKit
theorem OwI.grb {E : TypeId} {w w' : World} {B g : Nat} {v : Value} {xs : List Int} (h : OwI E w B v xs) (hg : w.grownBy w' (some g)) (hgB : g < B) : OwI E w' B v xs := by
  refine ⟨h.1, ?_⟩
  rcases h.2 with hn | ⟨b, cap, cur, rfl, hbg, hb, rest⟩
  · exact .inl hn
  · exact .inr ⟨b, cap, cur, rfl, hbg, by rw [hg.block b (Array.getElem?_eq_some_iff.1 hb).1 (by intro e; injection e with e; omega)]; exact hb, rest⟩
/-- A drawn signal. -/
def DrR (g : Nat) (cv : Value) (a most : Nat) (w : World) (e : Ending) (w' : World) : Prop := ∃ (v : Value) (xs : List Int) (a2 : Nat), e = .returned v ∧ OwI 2 w' w.heap.size v xs ∧ (∀ x ∈ xs, Smp x) ∧ xs.length ≤ most ∧ a2 ≤ a + 100 + 20 * most ∧ Src w' g cv a2 ∧ w.grownBy w' (some g)
set_option maxHeartbeats 2000000 in
set_option maxRecDepth 100000 in
theorem c_l29Draw (g : Nat) (cv : Value) (bs : List UInt8) (a most : Nat) (w : World) (h : Src w g cv a) (hr : RdY w cv bs) (hat : a ≤ 1000000000) (hbs : bs.length ≤ 1073741824) (hg : 0 < bs.length → ∀ b, cv.ownBlock = some b → b ≠ g) (hm : most ≤ 4000) :
    Calls Tryd.prog 46 #[.pointer (some ⟨g, 0, none⟩), .int .i64 (most : Int)] w (DrR g cv a most w) := by
  have H := hide h; have HR := hide hr
  have hgl : g < w.heap.size := by obtain ⟨z, _, hb⟩ := h; exact hb.lt
  have HGL := hide hgl
  clear h hr hgl
  have HN := hide (new_i64 w)
  have HA := hide (World.grownBy_alloc w (.cells #[] 2) (some g))
  have HHD := hide hg; clear hg
  go_enter Tryd.func46, Tryd.ntmps46
  go_wp2_with fail
  refine (c_l01Draw g cv bs a _ (H.out.alloc _) (Rd.alloc HR.out _) (by omega) hbs HHD.out).mono ?_; rintro e w1 ⟨x0, a1, rfl, hx0, ha1, hs1, hg1⟩
  have HS1 := hide hs1; have HG1 := hide (HA.out.trans hg1); have HO1 := hide (HN.out.grb hg1 HGL.out); clear hs1 hg1
  have HR1 := hide (HR.out.gro HG1.out HHD.out)
  go_wp2_with fail
  refine (c_pick g cv bs a1 200 _ HS1.out HR1.out (by omega) hbs HHD.out (by omega)).mono ?_; rintro e w2 ⟨x1, a2, rfl, hx1, ha2, hs2, hg2⟩
  have HS2 := hide hs2; have HG2 := hide (HG1.out.trans hg2.1); have HO2 := hide (HO1.out.grb hg2.1 HGL.out); clear hs2 hg2
  have HR2 := hide (HR.out.gro HG2.out HHD.out)
  go_wp2_with fail
  refine (c_pick g cv bs a2 4 _ HS2.out HR2.out (by omega) hbs HHD.out (by omega)).mono ?_; rintro e w3 ⟨kd, a3, rfl, hkd, ha3, hs3, hg3⟩
  have HS3 := hide hs3; have HG3 := hide (HG2.out.trans hg3.1); have HO3 := hide (HO2.out.grb hg3.1 HGL.out); clear hs3 hg3
  have HR3 := hide (HR.out.gro HG3.out HHD.out)
  obtain ⟨ki, hki⟩ : ∃ ki : Int, (kd : Int) = ki := ⟨_, rfl⟩
  rw [hki]
  have HKI := hide (show ki = 0 ∨ ki = 1 ∨ ki = 2 ∨ ki = 3 by omega)
  clear hki hkd
  go_wp2_with fail
  refine (c_pick g cv bs a3 (most + 1) _ HS3.out HR3.out (by omega) hbs HHD.out (by omega)).mono ?_; rintro e w4 ⟨K, a4, rfl, hK, ha4, hs4, hg4⟩
  have HS4 := hide hs4; have HG4 := hide (HG3.out.trans hg4.1); have HO4 := hide (HO3.out.grb hg4.1 HGL.out); clear hs4 hg4
  go_wp2
  go_loopw [5, 6, 7, 9] (fun o xx ss kk wr => ∃ (k c : Nat) (x st : Int) (out : List Int), k ≤ K ∧ kk = .int .i64 k ∧ xx = .int .i64 x ∧ ss = .int .i64 st ∧ Smp x ∧ -(200 + ((K : Int) - k)) ≤ st ∧ st ≤ 200 + ((K : Int) - k) ∧ (∀ y ∈ out, Smp y) ∧ out.length + k = K ∧ c ≤ a4 + 12 * (K - k) ∧ Src wr g cv c ∧ OwI 2 wr w.heap.size o out ∧ w.grownBy wr (some g)) (fun _ _ _ kk _ => (intOf kk).toNat)
  case atStart => exact ⟨K, a4, x0, (x1 : Int) - 100, [], Nat.le_refl _, rfl, rfl, rfl, hx0, by omega, by omega, by simp, by simp, by omega, HS4.out, HO4.out, HG4.out⟩
  case round =>
    obtain ⟨k, c, x, st, out, hkK, rfl, rfl, rfl, hxs, hst1, hst2, hos, hol, hc, hs, ho, hgb⟩ := hrel
    have HS := hide hs; have HO := hide ho; have HG := hide hgb; have HOS := hide hos; have hsz : w.heap.size ≤ wr.heap.size := hgb.size
    clear hs ho hgb hos
    by_cases hk : 0 < k
    · have hal : out.length + 1 ≤ 17592186044416 := by omega
      have HOS2 := hide (show ∀ y ∈ out ++ [x], Smp y from fun y hy => by
        simp only [List.mem_append, List.mem_singleton] at hy
        rcases hy with hy | rfl
        · exact HOS.out y hy
        · exact hxs)
      rcases HKI.out with hi | hi | hi | hi
      · have t0 : (ki == 0) = true := by rw [hi]; rfl
        have HI := hide hi; clear hi
        go_wp2_with (at_builtin; refine app1_i64 rfl _ _ rfl rfl HO.out rfl hal hsz ?_; intro v5 w5 ho5 hg5 hv5; have hlo := (fun j (e : _ = some j) => (HO.out.lt j e).1); have HO5 := hide ho5; have HG5 := hide (HG.out.andThen hg5 (fun j e => .inl (HO.out.lt j e).1)); have HS5 := hide (HS.out.grown hg5 (fun e => by have h1 := (HO.out.lt _ e.symm).1; have h2 := HGL.out; omega)); have HR5 := hide (HR.out.gro HG5.out HHD.out); clear ho5 hg5 hv5 hlo)
        refine (c_l01Draw g cv bs c _ HS5.out HR5.out (by omega) hbs HHD.out).mono ?_; rintro e w6 ⟨y, c2, rfl, hy, hc2, hs6, hg6⟩
        have HS6 := hide hs6; have HG6 := hide (HG5.out.trans hg6); have HO6 := hide (HO5.out.grb hg6 HGL.out); clear hs6 hg6
        go_wp2
        go_roundw
        case rel => exact ⟨k - 1, c2, y, st, out ++ [x], by omega, by go_num, rfl, rfl, hy, by omega, by omega, HOS2.out, by rw [List.length_append]; simp; omega, by omega, HS6.out, HO6.out, HG6.out⟩
        case measure => first | (simp [intOf]; done) | (simp [intOf]; omega)
      · have t0 : (ki == 0) = false := by rw [hi]; rfl
        have t1 : (ki == 1) = true := by rw [hi]; rfl
        have HI := hide hi; clear hi
        go_wp2_with (at_builtin; refine app1_i64 rfl _ _ rfl rfl HO.out rfl hal hsz ?_; intro v5 w5 ho5 hg5 hv5; have hlo := (fun j (e : _ = some j) => (HO.out.lt j e).1); have HO5 := hide ho5; have HG5 := hide (HG.out.andThen hg5 (fun j e => .inl (HO.out.lt j e).1)); have HS5 := hide (HS.out.grown hg5 (fun e => by have h1 := (HO.out.lt _ e.symm).1; have h2 := HGL.out; omega)); have HR5 := hide (HR.out.gro HG5.out HHD.out); clear ho5 hg5 hv5 hlo)
        refine (c_pick g cv bs c 9 _ HS5.out HR5.out (by omega) hbs HHD.out (by omega)).mono ?_; rintro e w6 ⟨y, c2, rfl, hy, hc2, hs6, hg6⟩
        have HS6 := hide hs6; have HG6 := hide (HG5.out.trans hg6.1); have HO6 := hide (HO5.out.grb hg6.1 HGL.out); clear hs6 hg6
        go_wp2_with fail
        refine (c_sAdd x _ _ hxs (by omega)).mono ?_; rintro e w7 ⟨⟨x2, rfl, hx2⟩, rfl⟩
        go_wp2
        go_roundw
        case rel => exact ⟨k - 1, c2, x2, st, out ++ [x], by omega, by go_num, rfl, rfl, hx2, by omega, by omega, HOS2.out, by rw [List.length_append]; simp; omega, by omega, HS6.out, HO6.out, HG6.out⟩
        case measure => first | (simp [intOf]; done) | (simp [intOf]; omega)
      · have t0 : (ki == 0) = false := by rw [hi]; rfl
        have t1 : (ki == 1) = false := by rw [hi]; rfl
        have t2 : (ki == 2) = true := by rw [hi]; rfl
        have HI := hide hi; clear hi
        go_wp2_with (at_builtin; refine app1_i64 rfl _ _ rfl rfl HO.out rfl hal hsz ?_; intro v5 w5 ho5 hg5 hv5; have hlo := (fun j (e : _ = some j) => (HO.out.lt j e).1); have HO5 := hide ho5; have HG5 := hide (HG.out.andThen hg5 (fun j e => .inl (HO.out.lt j e).1)); have HS5 := hide (HS.out.grown hg5 (fun e => by have h1 := (HO.out.lt _ e.symm).1; have h2 := HGL.out; omega)); have HR5 := hide (HR.out.gro HG5.out HHD.out); clear ho5 hg5 hv5 hlo)
        refine (c_sAdd x _ _ hxs (by omega)).mono ?_; rintro e w7 ⟨⟨x2, rfl, hx2⟩, rfl⟩
        go_wp2_with fail
        refine (c_pick g cv bs c 3 _ HS5.out HR5.out (by omega) hbs HHD.out (by omega)).mono ?_; rintro e w6 ⟨y, c2, rfl, hy, hc2, hs6, hg6⟩
        have HS6 := hide hs6; have HG6 := hide (HG5.out.trans hg6.1); have HO6 := hide (HO5.out.grb hg6.1 HGL.out); clear hs6 hg6
        go_wp2
        go_roundw
        case rel => exact ⟨k - 1, c2, x2, st + ((y : Int) - 1), out ++ [x], by omega, by go_num, rfl, by first | rfl | go_num, hx2, by omega, by omega, HOS2.out, by rw [List.length_append]; simp; omega, by omega, HS6.out, HO6.out, HG6.out⟩
        case measure => first | (simp [intOf]; done) | (simp [intOf]; omega)
      · have t0 : (ki == 0) = false := by rw [hi]; rfl
        have t1 : (ki == 1) = false := by rw [hi]; rfl
        have t2 : (ki == 2) = false := by rw [hi]; rfl
        have HI := hide hi; clear hi
        go_wp2_with (at_builtin; refine app1_i64 rfl _ _ rfl rfl HO.out rfl hal hsz ?_; intro v5 w5 ho5 hg5 hv5; have hlo := (fun j (e : _ = some j) => (HO.out.lt j e).1); have HO5 := hide ho5; have HG5 := hide (HG.out.andThen hg5 (fun j e => .inl (HO.out.lt j e).1)); have HS5 := hide (HS.out.grown hg5 (fun e => by have h1 := (HO.out.lt _ e.symm).1; have h2 := HGL.out; omega)); have HR5 := hide (HR.out.gro HG5.out HHD.out); clear ho5 hg5 hv5 hlo)
        refine (c_pick g cv bs c 40 _ HS5.out HR5.out (by omega) hbs HHD.out (by omega)).mono ?_; rintro e w6 ⟨y, c2, rfl, hy, hc2, hs6, hg6⟩
        have HS6 := hide hs6; have HG6 := hide (HG5.out.trans hg6.1); have HO6 := hide (HO5.out.grb hg6.1 HGL.out); clear hs6 hg6
        go_wp2
        go_roundw
        case rel => exact ⟨k - 1, c2, (y : Int) - 20, st, out ++ [x], by omega, by go_num, rfl, rfl, by unfold Smp; omega, by omega, by omega, HOS2.out, by rw [List.length_append]; simp; omega, by omega, HS6.out, HO6.out, HG6.out⟩
        case measure => first | (simp [intOf]; done) | (simp [intOf]; omega)
    · obtain rfl : k = 0 := by omega
      go_wp2
      go_ret
      exact ⟨_, out, c, rfl, HO.out, HOS.out, by omega, by omega, HS.out, HG.out⟩
end
section
open Go.RowKit
set_option maxHeartbeats 1000000 in
set_option maxRecDepth 100000 in
theorem c_E8Signal (v : Value) (bs : List UInt8) (most : Nat) (w : World) (hr : RdY w v bs) (hbs : bs.length ≤ 1073741824) (hm : most ≤ 4000) :
    Calls Tryd.prog 12 #[v, .int .i64 (most : Int)] w fun e w' => ∃ (v' : Value) (xs : List Int), e = .returned v' ∧ OwI 2 w' w.heap.size v' xs ∧ (∀ x ∈ xs, Smp x) ∧ xs.length ≤ most ∧ Below w.heap.size w w' := by
  have HR := hide hr
  have HLT := hide (fun h0 => hr.lt h0)
  obtain ⟨_, A, cap, rfl, _, _, _⟩ := hr
  have HB := hide ((Below.refl w.heap.size w).alloc (Nat.le_refl _) (.cells #[.slice A bs.length cap, .int .i64 0, .int .u64 0] 89))
  have HS := hide (show Src (w.alloc (.cells #[.slice A bs.length cap, .int .i64 0, .int .u64 0] 89)) w.heap.size (.slice A bs.length cap) 0 from ⟨0, by decide, Bk.born _ _ _⟩)
  go_enter Tryd.func12, Tryd.ntmps12
  go_wp2_with fail
  refine (c_l00From _ _ _ _).mono ?_; rintro e w1 ⟨rfl, rfl⟩
  go_wp2_with fail
  refine (c_l29Draw w.heap.size _ bs 0 most _ HS.out (Rd.alloc HR.out _) (by omega) hbs (fun h0 b e => by have := HLT.out h0 b e; omega) hm).mono ?_; rintro e w2 ⟨v2, xs, a2, rfl, ho, hxs, hxl, _, _, hg⟩
  have HO := hide ho; have HX := hide hxs; have HG := hide (HB.out.grown hg (by simp) (fun k hk => by injection hk with hk; omega))
  clear ho hxs hg
  go_wp2
  go_ret
  exact ⟨_, xs, rfl, HO.out.more (by simp), HX.out, hxl, HG.out⟩
/-- The number that an input chooses. -/
def AtR (n : Nat) (w : World) (e : Ending) (w' : World) : Prop := ∃ x : Nat, e = .returned (.int .i64 (x : Int)) ∧ (x < n ∨ x = 0) ∧ Dr w w'
set_option maxHeartbeats 1000000 in
set_option maxRecDepth 100000 in
theorem c_v8At (v : Value) (bs : List UInt8) (k n : Nat) (w : World) (hr : RdY w v bs) (hbs : bs.length ≤ 1073741824) (hk : k ≤ 1000) (hn : n ≤ 1073741824) : Calls Tryd.prog 13 #[v, .int .i64 (k : Int), .int .i64 (n : Int)] w (AtR n w) := by
  obtain ⟨_, A, cap, rfl, hl, hc, hx⟩ := hr
  by_cases h1 : n ≤ 1
  · have t1 : (n : Int) ≤ 1 := by omega
    go_enter Tryd.func13, Tryd.ntmps13
    go_wp2
    go_ret
    exact ⟨0, rfl, .inr rfl, Dr.refl _⟩
  · have t1 : ¬ (n : Int) ≤ 1 := by omega
    by_cases h2 : bs.length ≤ k
    · have t2 : (bs.length : Int) ≤ (k : Int) := by omega
      go_enter Tryd.func13, Tryd.ntmps13
      go_wp2
      go_ret
      exact ⟨0, rfl, .inr rfl, Dr.refl _⟩
    · have t2 : ¬ (bs.length : Int) ≤ (k : Int) := by omega
      obtain ⟨b, off, rfl, hb, hcell⟩ := hx (by omega)
      have hc0 := hcell k (.int .u8 (bs[k].toNat : Int)) (by rw [List.getElem?_map, List.getElem?_eq_getElem (by omega)]; rfl)
      have hb8 := UInt8.toNat_lt bs[k]
      generalize bs[k].toNat = y at *
      by_cases h3 : k + 1 < bs.length
      · have t3 : (k : Int) + 1 < (bs.length : Int) := by omega
        have hc1 := hcell (k + 1) (.int .u8 (bs[k + 1].toNat : Int)) (by rw [List.getElem?_map, List.getElem?_eq_getElem h3]; rfl)
        have hb9 := UInt8.toNat_lt bs[k + 1]
        generalize bs[k + 1].toNat = z at *
        clear hcell hx
        obtain ⟨s, hs⟩ : ∃ s, 256 * y + z = s := ⟨_, rfl⟩
        have es : 256 * (y : Int) + (z : Int) = (s : Int) := by omega
        have hsb : s ≤ 70000 := by omega
        have a4 : ((k : Int) + 1).toNat = k + 1 := by omega
        have EM := hide (show (s : Int) % (n : Int) = ((s % n : Nat) : Int) by simp)
        have hm := Nat.mod_lt s (show 0 < n by omega)
        clear hs
        go_enter Tryd.func13, Tryd.ntmps13
        go_wp2
        go_ret
        exact ⟨s % n, ret_int EM.out, .inl hm, by first | exact Dr.refl _ | exact ⟨_, rfl⟩⟩
      · have t3 : ¬ (k : Int) + 1 < (bs.length : Int) := by omega
        clear hcell hx
        have EM := hide (show (y : Int) % (n : Int) = ((y % n : Nat) : Int) by simp)
        have hm := Nat.mod_lt y (show 0 < n by omega)
        go_enter Tryd.func13, Tryd.ntmps13
        go_wp2
        go_ret
        exact ⟨y % n, ret_int EM.out, .inl hm, by first | exact Dr.refl _ | exact ⟨_, rfl⟩⟩
set_option maxHeartbeats 400000 in
theorem c_v8Long (v1 v2 : Value) (xs ys : List UInt8) (w : World) (h1 : RdY w v1 xs) (h2 : RdY w v2 ys) : Calls Tryd.prog 11 #[v1, v2] w fun e w' => e = .returned (.bool (decide (1048576 < xs.length) || decide (1048576 < ys.length))) ∧ w = w' := by
  obtain ⟨_, A1, cap1, rfl, _, _, _⟩ := h1
  obtain ⟨_, A2, cap2, rfl, _, _, _⟩ := h2
  by_cases ha : 1048576 < xs.length
  · have ta : (1048576 : Int) < (xs.length : Int) := by omega
    have HA := hide ha; clear ha
    go_enter Tryd.func11, Tryd.ntmps11
    go_wp2
    go_ret
    exact ⟨ret_bool (by rw [decide_eq_true HA.out]; rfl), rfl⟩
  · have ta : ¬ (1048576 : Int) < (xs.length : Int) := by omega
    have HA := hide ha; clear ha
    have e2 : decide ((1048576 : Int) < (ys.length : Int)) = decide (1048576 < ys.length) := decide_eq_decide.2 (by omega)
    have E2 := hide e2; clear e2
    go_enter Tryd.func11, Tryd.ntmps11
    go_wp2
    go_ret
    exact ⟨ret_bool (by rw [decide_eq_false HA.out, Bool.false_or, ← E2.out]), rfl⟩
set_option maxHeartbeats 400000 in
theorem c_v8Same (v1 v2 : Value) (xs ys : List Int) (w : World) (hr1 : RdI w v1 xs) (hr2 : RdI w v2 ys) : Calls Tryd.prog 19 #[v1, v2] w fun e w' => e = .returned (.bool (decide (xs = ys))) ∧ Dr w w' := by
  obtain ⟨A1, cap1, rfl, hl1, hc1, hx1⟩ := hr1.open_
  obtain ⟨A2, cap2, rfl, hl2, hc2, hx2⟩ := hr2.open_
  have HX1 := hide hx1; have HX2 := hide hx2; clear hx1 hx2 hr1 hr2
  by_cases hll : xs.length = ys.length
  · have hb : ((xs.length : Int) != (ys.length : Int)) = false := by simp [hll]
    have HL := hide hll; clear hll
    go_enter Tryd.func19, Tryd.ntmps19
    go_wp2
    go_loopw [5] (fun i wr => ∃ k : Nat, k ≤ xs.length ∧ i = .int .i64 k ∧ xs.take k = ys.take k ∧ Dr w wr) (fun i _ => xs.length - (intOf i).toNat)
    case atStart => exact ⟨0, Nat.zero_le _, rfl, rfl, Dr.refl _⟩
    case round =>
      obtain ⟨k, hk, rfl, hs, nr, rfl⟩ := hrel
      have HS := hide hs; clear hs
      by_cases hlt : k < xs.length
      · have hlt2 : k < ys.length := by have := HL.out; omega
        obtain ⟨b1, off1, rfl, hb1, hcell1⟩ := HX1.out k xs[k] (List.getElem?_eq_getElem hlt)
        obtain ⟨b2, off2, rfl, hb2, hcell2⟩ := HX2.out k ys[k] (List.getElem?_eq_getElem hlt2)
        by_cases he : xs[k] = ys[k]
        · have hd : (xs[k] != ys[k]) = false := by simp [he]
          have HE := hide he; clear he
          go_wp2
          go_quiet (fail)
          go_wp2
          go_roundw
          case rel => exact ⟨k + 1, by omega, by go_num, takes_succ HS.out (List.getElem?_eq_getElem hlt) (by rw [HE.out]; exact List.getElem?_eq_getElem hlt2), (by repeat (first | exact Dr.refl _ | exact ⟨_, rfl⟩ | refine Dr.drewN ?_ _ | refine Dr.drew ?_))⟩
          case measure => simp [intOf]; omega
        · have hd : (xs[k] != ys[k]) = true := by simp [he]
          have HE := hide he; clear he
          go_wp2
          go_quiet (fail)
          go_wp2
          go_ret
          exact ⟨by simp [ne_at (List.getElem?_eq_getElem hlt) (List.getElem?_eq_getElem hlt2) HE.out], (by repeat (first | exact Dr.refl _ | exact ⟨_, rfl⟩ | refine Dr.drewN ?_ _ | refine Dr.drew ?_))⟩
      · go_wp2
        go_ret
        exact ⟨by simp [eq_of_takes (k := k) (by omega) HL.out HS.out], (by repeat (first | exact Dr.refl _ | exact ⟨_, rfl⟩ | refine Dr.drewN ?_ _ | refine Dr.drew ?_))⟩
  · have hb : ((xs.length : Int) != (ys.length : Int)) = true := by simp; omega
    have hne : xs ≠ ys := fun e => hll (by rw [e])
    have HN := hide hne; clear hll hne
    go_enter Tryd.func19, Tryd.ntmps19
    go_wp2
    go_ret
    exact ⟨by simp [HN.out], Dr.refl _⟩
end
open Go.RowKit
end Go.Proofs.YtpmflkoepnanoaaDoor
