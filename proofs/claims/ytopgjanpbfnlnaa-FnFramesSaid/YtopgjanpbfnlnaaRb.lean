/- Contracts: numbers drawn out of a source. -/
import Derived.Test.YtopgjanpbfnlnaaRa
import Derived.Test.YtopgjanpbfnlnaaHa
namespace Go.Proofs.Ytopgjanpbfnlnaa
open Go.RowKit
theorem RdY.nil {w w' : World} {v : Value} {bs : List UInt8} (h : RdY w v bs) (h0 : bs.length = 0) : RdY w' v bs := by
  obtain ⟨h1, A, cap, rfl, h3, h4, h5⟩ := h
  exact ⟨h1, A, cap, rfl, h3, h4, fun hn => absurd hn (by omega)⟩
theorem RdY.gro {w w' : World} {v : Value} {bs : List UInt8} {g : Nat} (h : RdY w v bs) (hg : w.grownBy w' (some g)) (hv : 0 < bs.length → ∀ b, v.ownBlock = some b → b ≠ g) : RdY w' v bs := by
  rcases Nat.eq_zero_or_pos bs.length with h0 | h0
  · exact h.nil h0
  · exact Rd.grown h hg fun b e1 e2 => by injection e2 with e2; exact hv h0 b e1 e2
theorem RdY.gr {w w' : World} {v : Value} {bs : List UInt8} {g : Nat} (h : RdY w v bs) (hg : Gr g w w') (hv : 0 < bs.length → ∀ b, v.ownBlock = some b → b ≠ g) : RdY w' v bs := h.gro hg.1 hv
theorem Src.alloc {w : World} {g : Nat} {cv : Value} {at' : Nat} (h : Src w g cv at') (o : Obj) : Src (w.alloc o) g cv at' := by obtain ⟨z, hz, hb⟩ := h; exact ⟨z, hz, hb.alloc o⟩
def PkR (g : Nat) (cv : Value) (at' n : Nat) (w : World) (e : Ending) (w' : World) : Prop := ∃ x at2 : Nat, e = .returned (.int .i64 (x : Int)) ∧ x < n ∧ at2 ≤ at' + 2 ∧ Src w' g cv at2 ∧ Gr g w w'
set_option maxHeartbeats 1000000 in
set_option maxRecDepth 100000 in
theorem c_pick (g : Nat) (cv : Value) (bs : List UInt8) (at' n : Nat) (w : World) (h : Src w g cv at') (hr : RdY w cv bs) (hat : at' ≤ 1073741000) (hbs : bs.length ≤ 1073741824) (hg : 0 < bs.length → ∀ b, cv.ownBlock = some b → b ≠ g) (hn : 1 ≤ n ∧ n ≤ 60000) :
    Calls Try.prog 133 #[.pointer (some ⟨g, 0, none⟩), .int .i64 (n : Int)] w (PkR g cv at' n w) := by
  have H := hide h; have HR := hide hr; clear h hr
  by_cases h1 : n ≤ 1
  · have t1 : (n : Int) ≤ 1 := by omega
    go_enter Try.func133, Try.ntmps133
    go_wp2
    go_ret
    exact ⟨0, at', rfl, by omega, by omega, H.out, Gr.refl _ _⟩
  · have t1 : ¬ (n : Int) ≤ 1 := by omega
    by_cases h2 : n ≤ 200
    · have t2 : ¬ (200 : Int) < (n : Int) := by omega
      go_enter Try.func133, Try.ntmps133
      go_wp2_with fail
      refine (c_next g cv bs at' _ H.out HR.out (by omega) hbs).mono ?_; rintro e w1 ⟨x, rfl, hx, hs1, hg1⟩
      have HS1 := hide hs1; have HG1 := hide hg1; clear hs1 hg1
      have hm := Nat.mod_lt x (show 0 < n by omega)
      have em : (x : Int) % (n : Int) = ((x % n : Nat) : Int) := by simp
      have EM := hide em; clear em
      go_wp2
      go_ret
      exact ⟨x % n, at' + 1, ret_int EM.out, hm, by omega, HS1.out, HG1.out⟩
    · have t2 : (200 : Int) < (n : Int) := by omega
      go_enter Try.func133, Try.ntmps133
      go_wp2_with fail
      refine (c_next g cv bs at' _ H.out HR.out (by omega) hbs).mono ?_; rintro e w1 ⟨x, rfl, hx, hs1, hg1⟩
      have HS1 := hide hs1; have HG1 := hide hg1; clear hs1 hg1
      go_wp2_with fail
      refine (c_next g cv bs (at' + 1) _ HS1.out (HR.out.gr HG1.out hg) (by omega) hbs).mono ?_; rintro e w2 ⟨x2, rfl, hx2, hs2, hg2⟩
      have HS2 := hide hs2; have HG2 := hide (HG1.out.trans hg2); clear hs2 hg2
      obtain ⟨s, hs⟩ : ∃ s, x * 256 + x2 = s := ⟨_, rfl⟩
      have es : (x : Int) * 256 + (x2 : Int) = (s : Int) := by omega
      have hm := Nat.mod_lt s (show 0 < n by omega)
      have em : (s : Int) % (n : Int) = ((s % n : Nat) : Int) := by simp
      have hsb : s ≤ 70000 := by omega
      have EM := hide em; clear em
      clear hs
      go_wp2
      go_ret
      exact ⟨s % n, at' + 2, ret_int EM.out, hm, by omega, HS2.out, HG2.out⟩
def AmR (g : Nat) (cv : Value) (at' c : Nat) (p : Int → Prop) (w : World) (e : Ending) (w' : World) : Prop := ∃ (x : Int) (at2 : Nat), e = .returned (.int .i64 x) ∧ p x ∧ at2 ≤ at' + c ∧ Src w' g cv at2 ∧ w.grownBy w' (some g)
set_option maxHeartbeats 1000000 in
set_option maxRecDepth 100000 in
theorem c_among (g : Nat) (cv v : Value) (xs : List Int) (bs : List UInt8) (at' : Nat) (w : World) (h : Src w g cv at') (hr : RdY w cv bs) (hv : RdI w v xs) (hxl : 1 ≤ xs.length ∧ xs.length ≤ 60000) (hat : at' ≤ 1073741000) (hbs : bs.length ≤ 1073741824) (hg : 0 < bs.length → ∀ b, cv.ownBlock = some b → b ≠ g) (hvg : ∀ b, v.ownBlock = some b → b ≠ g) :
    Calls Try.prog 151 #[.pointer (some ⟨g, 0, none⟩), v] w (AmR g cv at' 2 (fun x => x ∈ xs) w) := by
  have H := hide h; have HR := hide hr; have HV := hide hv
  obtain ⟨A, cap, rfl, hl, hc, _⟩ := hv.open_
  clear h hr hv
  go_enter Try.func151, Try.ntmps151
  go_wp2_with fail
  refine (c_pick g cv bs at' xs.length _ H.out HR.out hat hbs hg hxl).mono ?_; rintro e w1 ⟨x, at2, rfl, hx, ha2, hs1, hg1⟩
  have hv1 := HV.out.grown hg1.1 (fun b e1 e2 => by injection e2 with e2; exact hvg b e1 e2)
  obtain ⟨A', cap', he, _, _, hx1⟩ := hv1.open_
  injection he with e1 _ e3
  subst e1 e3
  obtain ⟨b, off, rfl, _, hcell⟩ := hx1 x xs[x] (List.getElem?_eq_getElem hx)
  have HS1 := hide hs1; have HG1 := hide hg1; have HM := hide (List.getElem_mem hx); clear hs1 hg1 hx1 hv1
  generalize xs[x] = y at *
  go_wp2
  go_ret
  exact ⟨y, at2, rfl, HM.out, by omega, HS1.out, HG1.out.1⟩
theorem c_sAdd (a b : Int) (w : World) (ha : Smp a) (hb : -100000 ≤ b ∧ b ≤ 100000) : Calls Try.prog 124 #[.int .i64 a, .int .i64 b] w fun e w' => (∃ x, e = .returned (.int .i64 x) ∧ Smp x) ∧ w = w' :=
  (c_l01Add a b w ha (by unfold Smp; omega)).mono fun _ _ ⟨h1, h2⟩ => ⟨⟨_, h1, wrp_smp _⟩, h2⟩
set_option maxHeartbeats 2000000 in
set_option maxRecDepth 100000 in
theorem c_l01Draw (g : Nat) (cv : Value) (bs : List UInt8) (at' : Nat) (w : World) (h : Src w g cv at') (hr : RdY w cv bs) (hat : at' ≤ 1073740000) (hbs : bs.length ≤ 1073741824) (hg : 0 < bs.length → ∀ b, cv.ownBlock = some b → b ≠ g) :
    Calls Try.prog 132 #[.pointer (some ⟨g, 0, none⟩)] w (AmR g cv at' 10 Smp w) := by
  have H := hide h; have HR := hide hr
  have hgl : g < w.heap.size := by obtain ⟨z, _, hb⟩ := h; exact hb.lt
  clear h hr
  go_enter Try.func132, Try.ntmps132
  go_wp2_with fail
  refine (c_pick g cv bs at' 8 _ H.out HR.out (by omega) hbs hg (by omega)).mono ?_; rintro e w1 ⟨x, at2, rfl, hx, ha2, hs1, hg1⟩
  have HS1 := hide hs1; have HG1 := hide hg1; have HR1 := hide (HR.out.gr hg1 hg); have HSZ := hide hg1.2; clear hs1 hg1
  rcases (show x = 0 ∨ x = 1 ∨ x = 2 ∨ 3 ≤ x by omega) with rfl | rfl | rfl | h3
  · go_wp2_with fail
    have hal := World.grownBy_alloc w1 (.cells #[.int .i64 (-2147483648), .int .i64 2147483647, .int .i64 (-2147483647), .int .i64 65536, .int .i64 (-65536), .int .i64 1073741824] 2) (some g)
    have how : OwI 2 (w1.alloc (.cells #[.int .i64 (-2147483648), .int .i64 2147483647, .int .i64 (-2147483647), .int .i64 65536, .int .i64 (-65536), .int .i64 1073741824] 2)) w1.heap.size (.slice (some ⟨w1.heap.size, 0, none⟩) 6 6) [-2147483648, 2147483647, -2147483647, 65536, -65536, 1073741824] :=
      World.ownsRow_lit (base := w1.heap.size) (e := 2) (size := 1) w1 #[.int .i64 (-2147483648), .int .i64 2147483647, .int .i64 (-2147483647), .int .i64 65536, .int .i64 (-65536), .int .i64 1073741824] 6 (Nat.le_refl _) (by decide) rfl
    refine (c_among g cv _ _ bs at2 _ (HS1.out.alloc _) (Rd.alloc HR1.out _) how.rd (by decide) (by omega) hbs hg (fun b e => by injection e with e; have := HSZ.out; simp at e; omega)).mono ?_; rintro e w2 ⟨y, at3, rfl, hy, ha3, hs2, hg2⟩
    have HS2 := hide hs2; have HG2 := hide (HG1.out.1.trans (hal.trans hg2)); clear hs2 hg2 hal how
    have hys : Smp y := by simp at hy; unfold Smp; omega
    clear hy
    go_wp2
    go_ret
    exact ⟨y, at3, rfl, hys, by omega, HS2.out, HG2.out⟩
  · go_wp2_with fail
    refine (c_next g cv bs at2 _ HS1.out HR1.out (by omega) hbs).mono ?_; rintro e w2 ⟨y, rfl, hy, hs2, hg2⟩
    have HS2 := hide hs2; have HG2 := hide (HG1.out.trans hg2); have HR2 := hide (HR1.out.gr hg2 hg); clear hs2 hg2
    go_wp2
    go_loopw [3, 4] (fun nn kk wr => ∃ (k z : Nat), k ≤ 3 ∧ kk = .int .i64 k ∧ nn = .int .i64 z ∧ z < 256 ^ (k + 1) ∧ Src wr g cv (at2 + 1 + k) ∧ RdY wr cv bs ∧ Gr g w wr) (fun _ kk _ => 3 - (intOf kk).toNat)
    case atStart => exact ⟨0, y, by omega, rfl, rfl, by omega, HS2.out, HR2.out, HG2.out⟩
    case round =>
      obtain ⟨k, z, hk, rfl, rfl, hz, hs3, hr3, hg3⟩ := hrel
      have HS3 := hide hs3; have HR3 := hide hr3; have HG3 := hide hg3; clear hs3 hr3 hg3
      have hP : 256 ^ (k + 1) ≤ 256 ^ 4 := Nat.pow_le_pow_right (by omega) (by omega)
      have hP2 : 256 ^ (k + 1 + 1) = 256 ^ (k + 1) * 256 := Nat.pow_succ _ _
      by_cases hlt : k < 3
      · have HZ := hide (show ∀ y, y ≤ 255 → 256 * z + y < 256 ^ (k + 1 + 1) from fun y hy => by rw [hP2]; generalize 256 ^ (k + 1) = P at *; omega)
        have hzb : z ≤ 4294967296 := by omega
        clear hP hP2 hz
        go_wp2_with fail
        refine (c_next g cv bs (at2 + 1 + k) _ HS3.out HR3.out (by omega) hbs).mono ?_; rintro e w4 ⟨y2, rfl, hy2, hs4, hg4⟩
        have HS4 := hide hs4; have HG4 := hide (HG3.out.trans hg4); have HR4 := hide (HR3.out.gr hg4 hg); clear hs4 hg4
        go_wp2
        go_roundw
        case rel => exact ⟨k + 1, 256 * z + y2, by omega, by go_num, by go_num, HZ.out _ hy2, HS4.out, HR4.out, HG4.out⟩
        case measure => first | (simp [intOf]; done) | (simp [intOf]; omega)
      · have hzb : z ≤ 4294967296 := by omega
        clear hP hP2 hz
        obtain rfl : k = 3 := by omega
        go_wp2_with fail
        refine (c_l01Wrap _ _).mono ?_; rintro e w4 ⟨rfl, rfl⟩
        go_wp2
        go_ret
        exact ⟨_, at2 + 1 + 3, rfl, wrp_smp _, by omega, HS3.out, HG3.out.1⟩
  · go_wp2
    go_ret
    exact ⟨0, at2, rfl, by unfold Smp; omega, by omega, HS1.out, HG1.out.1⟩
  · have t0 : ((x : Int) == 0) = false := by simp; omega
    have t1 : ((x : Int) == 1) = false := by simp; omega
    have t2 : ((x : Int) == 2) = false := by simp; omega
    go_wp2_with fail
    refine (c_pick g cv bs at2 41 _ HS1.out HR1.out (by omega) hbs hg (by omega)).mono ?_; rintro e w2 ⟨y, at3, rfl, hy, ha3, hs2, hg2⟩
    have HS2 := hide hs2; have HG2 := hide (HG1.out.trans hg2); clear hs2 hg2
    go_wp2
    go_ret
    exact ⟨(y : Int) - 20, at3, rfl, by unfold Smp; omega, by omega, HS2.out, HG2.out.1⟩
end Go.Proofs.Ytopgjanpbfnlnaa
