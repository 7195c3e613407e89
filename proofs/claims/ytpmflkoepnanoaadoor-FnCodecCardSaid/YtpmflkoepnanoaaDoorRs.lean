/- Contracts: a source of drawn numbers. -/
import Derived.Test.YtpmflkoepnanoaaDoorLk
import Derived.Test.YtpmflkoepnanoaaDoorAa
import Derived.Laws.Bits64b
namespace Go.Proofs.YtpmflkoepnanoaaDoor
open Go.RowKit
/-- A source: the text's bytes, how many are used, and a number that is not asked for. -/
def Src (w : World) (g : Nat) (cv : Value) (at' : Nat) : Prop := ∃ z : Nat, z < 2 ^ 64 ∧ Bk w g 89 #[cv, .int .i64 (at' : Int), .int .u64 (z : Int)]
def NxR (g : Nat) (cv : Value) (at' : Nat) (w : World) (e : Ending) (w' : World) : Prop := ∃ x : Nat, e = .returned (.int .i64 (x : Int)) ∧ x ≤ 255 ∧ Src w' g cv (at' + 1) ∧ Gr g w w'
theorem u64_nat (n : Int) : ∃ m : Nat, m < 2 ^ 64 ∧ IntKind.u64.wrap n = (m : Int) := by
  have h : 0 ≤ IntKind.u64.wrap n ∧ IntKind.u64.wrap n < 18446744073709551616 := by
    unfold IntKind.wrap; simp [IntKind.bits, IntKind.signed]; omega
  exact ⟨(IntKind.u64.wrap n).toNat, by omega, by omega⟩
theorem and_low (q : Int) : ∃ x : Nat, x ≤ 255 ∧ wrap64 (bits .and .u64 (IntKind.u64.wrap q / 1099511627776) 255) = (x : Int) := by
  obtain ⟨m, hm, e⟩ := u64_nat q
  have e2 : (m : Int) / 1099511627776 = ((m / 1099511627776 : Nat) : Int) := by simp
  have h := bits_and_u64_nat (m / 1099511627776) 255 (by omega) (by omega)
  have hle : (m / 1099511627776) &&& 255 ≤ 255 := Nat.and_le_right
  refine ⟨(m / 1099511627776) &&& 255, hle, ?_⟩
  rw [e, e2]
  rw [show bits .and .u64 ((m / 1099511627776 : Nat) : Int) 255 = (((m / 1099511627776) &&& 255 : Nat) : Int) from h]
  exact IntWalk.wrap64_in _ (by omega)
theorem src_set {w : World} {g : Nat} {cv u : Value} {at' : Nat} {q : Int} (h : Bk w g 89 #[cv, .int .i64 (at' : Int), u]) : Src (w.setCell ⟨g, 2, none⟩ (.int .u64 (IntKind.u64.wrap q))) g cv at' := by
  obtain ⟨m, hm, e⟩ := u64_nat q
  refine ⟨m, hm, ?_⟩
  rw [e]
  exact h.set_ 2 _
theorem NxR.mk {g : Nat} {cv : Value} {at' : Nat} {w w' : World} {n : Int} (h : ∃ x : Nat, x ≤ 255 ∧ n = (x : Int)) (hs : Src w' g cv (at' + 1)) (hg : Gr g w w') : NxR g cv at' w (.returned (.int .i64 n)) w' := by
  obtain ⟨x, hx, rfl⟩ := h
  exact ⟨x, rfl, hx, hs, hg⟩
theorem Src.drewN {w : World} {g : Nat} {cv : Value} {at' : Nat} (h : Src w g cv at') (n : Nat) : Src (w.drewN n) g cv at' := h
set_option maxHeartbeats 1000000 in
set_option maxRecDepth 100000 in
theorem c_next (g : Nat) (cv : Value) (bs : List UInt8) (at' : Nat) (w : World) (h : Src w g cv at') (hr : RdY w cv bs) (hat : at' ≤ 1073741824) (hbs : bs.length ≤ 1073741824) :
    Calls Tryd.prog 117 #[.pointer (some ⟨g, 0, none⟩)] w (NxR g cv at' w) := by
  obtain ⟨z, hz, hbk⟩ := h
  obtain ⟨_, A, cap, rfl, hl, hc, hx⟩ := hr
  have c0 := hbk.cell 0; have c1 := hbk.cell 1; have c2 := hbk.cell 2
  have f0 := hbk.free 0; have f1 := hbk.free 1; have f2 := hbk.free 2
  simp at c0 c1 c2
  have HBK := hide hbk; have HZ := hide hz; clear hbk hz
  by_cases hlt : at' < bs.length
  · obtain ⟨b, off, rfl, hb, hcell⟩ := hx (by omega)
    have hce := hcell at' (.int .u8 (bs[at'].toNat : Int)) (by rw [List.getElem?_map, List.getElem?_eq_getElem hlt]; rfl)
    have hb8 := UInt8.toNat_lt bs[at']
    have a1 : (at' : Int) < (bs.length : Int) := by omega
    have a2 : (at' : Int) + 1 ≤ (bs.length : Int) := by omega
    generalize bs[at'].toNat = y at *
    clear hcell hx
    go_enter Tryd.func117, Tryd.ntmps117
    go_wp2
    go_quiet (fail)
    go_wp2
    go_quiet (fail)
    go_wp2
    go_quiet (fail)
    go_wp2
    go_ret
    exact NxR.mk ⟨y, by omega, rfl⟩ ((src_set ((HBK.out.drewN _).set_ 1 _)).drewN _) ((((Gr.refl g w).drewN _).set_ 1 _).set_ 2 _ |>.drewN _)
  · have a1 : ¬ (at' : Int) < (bs.length : Int) := by omega
    have a2 : ¬ (at' : Int) + 1 ≤ (bs.length : Int) := by omega
    go_enter Tryd.func117, Tryd.ntmps117
    go_wp2
    go_quiet (fail)
    go_wp2
    go_quiet (fail)
    go_wp2
    go_ret
    exact NxR.mk (and_low _) ((src_set ((HBK.out.drewN _).set_ 1 _)).drewN _) ((((Gr.refl g w).drewN _).set_ 1 _).set_ 2 _ |>.drewN _)
theorem RdY.nil {w w' : World} {v : Value} {bs : List UInt8} (h : RdY w v bs) (h0 : bs.length = 0) : RdY w' v bs := by
  obtain ⟨h1, A, cap, rfl, h3, h4, h5⟩ := h
  exact ⟨h1, A, cap, rfl, h3, h4, fun hn => absurd hn (by omega)⟩
theorem RdY.gro {w w' : World} {v : Value} {bs : List UInt8} {g : Nat} (h : RdY w v bs) (hg : w.grownBy w' (some g)) (hv : 0 < bs.length → ∀ b, v.ownBlock = some b → b ≠ g) : RdY w' v bs := by
  rcases Nat.eq_zero_or_pos bs.length with h0 | h0
  · exact h.nil h0
  · exact Rd.grown h hg fun b e1 e2 => by injection e2 with e2; exact hv h0 b e1 e2
theorem RdY.gr {w w' : World} {v : Value} {bs : List UInt8} {g : Nat} (h : RdY w v bs) (hg : Gr g w w') (hv : 0 < bs.length → ∀ b, v.ownBlock = some b → b ≠ g) : RdY w' v bs := h.gro hg.1 hv
theorem Src.alloc {w : World} {g : Nat} {cv : Value} {at' : Nat} (h : Src w g cv at') (o : Obj) : Src (w.alloc o) g cv at' := by obtain ⟨z, hz, hb⟩ := h; exact ⟨z, hz, hb.alloc o⟩
def PkR (g : Nat) (cv : Value) (at' n : Nat) (w : World) (e : Ending) (w' : World) : Prop := ∃ x at2 : Nat, e = .returned (.int .i64 (x : Int)) ∧ x < n ∧ at2 ≤ at' + 2 ∧ Src w' g cv at2 ∧ Gr g w w'
set_option maxHeartbeats 1000000 in
set_option maxRecDepth 100000 in
theorem c_pick (g : Nat) (cv : Value) (bs : List UInt8) (at' n : Nat) (w : World) (h : Src w g cv at') (hr : RdY w cv bs) (hat : at' ≤ 1073741000) (hbs : bs.length ≤ 1073741824) (hg : 0 < bs.length → ∀ b, cv.ownBlock = some b → b ≠ g) (hn : 1 ≤ n ∧ n ≤ 60000) :
    Calls Tryd.prog 78 #[.pointer (some ⟨g, 0, none⟩), .int .i64 (n : Int)] w (PkR g cv at' n w) := by
  have H := hide h; have HR := hide hr; clear h hr
  by_cases h1 : n ≤ 1
  · have t1 : (n : Int) ≤ 1 := by omega
    go_enter Tryd.func78, Tryd.ntmps78
    go_wp2
    go_ret
    exact ⟨0, at', rfl, by omega, by omega, H.out, Gr.refl _ _⟩
  · have t1 : ¬ (n : Int) ≤ 1 := by omega
    by_cases h2 : n ≤ 200
    · have t2 : ¬ (200 : Int) < (n : Int) := by omega
      go_enter Tryd.func78, Tryd.ntmps78
      go_wp2_with fail
      refine (c_next g cv bs at' _ H.out HR.out (by omega) hbs).mono ?_; rintro e w1 ⟨x, rfl, hx, hs1, hg1⟩
      have HS1 := hide hs1; have HG1 := hide hg1; clear hs1 hg1
      have hm := Nat.mod_lt x (show 0 < n by omega)
      have em : (x : Int) % (n : Int) = ((x % n : Nat) : Int) := by simp
      have EM := hide em; clear em
      go_wp2
      go_ret
      exact ⟨x % n, at' + 1, ret_int EM.out, hm, by omega, HS1.out, HG1.out⟩
    · have t2 : (200 : Int) < (n : Int) := by omega
      go_enter Tryd.func78, Tryd.ntmps78
      go_wp2_with fail
      refine (c_next g cv bs at' _ H.out HR.out (by omega) hbs).mono ?_; rintro e w1 ⟨x, rfl, hx, hs1, hg1⟩
      have HS1 := hide hs1; have HG1 := hide hg1; clear hs1 hg1
      go_wp2_with fail
      refine (c_next g cv bs (at' + 1) _ HS1.out (HR.out.gr HG1.out hg) (by omega) hbs).mono ?_; rintro e w2 ⟨x2, rfl, hx2, hs2, hg2⟩
      have HS2 := hide hs2; have HG2 := hide (HG1.out.trans hg2); clear hs2 hg2
      obtain ⟨s, hs⟩ : ∃ s, x * 256 + x2 = s := ⟨_, rfl⟩
      have es : (x : Int) * 256 + (x2 : Int) = (s : Int) := by omega
      have hm := Nat.mod_lt s (show 0 < n by omega)
      have em : (s : Int) % (n : Int) = ((s % n : Nat) : Int) := by simp
      have hsb : s ≤ 70000 := by omega
      have EM := hide em; clear em
      clear hs
      go_wp2
      go_ret
      exact ⟨s % n, at' + 2, ret_int EM.out, hm, by omega, HS2.out, HG2.out⟩
theorem Src.grown {w w' : World} {g : Nat} {cv : Value} {a : Nat} {row : Option Nat} (h : Src w g cv a) (hg : w.grownBy w' row) (hn : some g ≠ row) : Src w' g cv a := by obtain ⟨z, hz, hb⟩ := h; exact ⟨z, hz, hb.grown hg hn⟩
theorem RdY.lt {w : World} {v : Value} {bs : List UInt8} (h : RdY w v bs) (h0 : 0 < bs.length) : ∀ b, v.ownBlock = some b → b < w.heap.size := by
  obtain ⟨_, A, cap, rfl, _, _, h5⟩ := h
  obtain ⟨b, off, rfl, hb, _⟩ := h5 h0
  intro b' e
  have e' : b = b' := by simpa [Value.ownBlock] using e
  omega
set_option maxHeartbeats 400000 in
theorem c_l00From (A : Option Addr) (l cap : Nat) (w : World) : Calls Tryd.prog 31 #[.slice A l cap] w fun e w' => e = .returned (.pointer (some ⟨w.heap.size, 0, none⟩)) ∧ w' = w.alloc (.cells #[.slice A l cap, .int .i64 0, .int .u64 0] 89) := by
  go_enter Tryd.func31, Tryd.ntmps31
  go_wp2
  go_ret
  exact ⟨rfl, rfl⟩
/-- An argument that is a slice of bytes reads as the bytes up to its length. -/
theorem rdY_of_row {w : World} {a : Option Addr} {len cap : Nat} {zs : List Int} (h : (a = none ∧ len = 0 ∧ cap = 0 ∧ zs = []) ∨
    ∃ x, a = some x ∧ len ≤ cap ∧ cap ≤ maxLen ∧ zs.length = cap ∧ (∀ i, i < zs.length → w.cell? (x.add i) = some (.int .u8 (zs.getD i 0))) ∧ ∀ n ∈ zs, (Lit.int .u8 n).wf = true) :
    RdY w (.slice a len cap) ((zs.take len).map fun n => UInt8.ofNat n.toNat) := by
  rcases h with ⟨rfl, rfl, rfl, rfl⟩ | ⟨x, rfl, hl, hc, hz, hcell, hwf⟩
  · exact Rd.nil_ w 1
  · have hlen : ((zs.take len).map fun n => UInt8.ofNat n.toNat).length = len := by rw [List.length_map, List.length_take]; omega
    refine ⟨by simp, some x, cap, by rw [hlen], by omega, by unfold maxLen at hc; omega, fun hn => ?_⟩
    have h0 := hcell 0 (by omega)
    have hs : x.spot = none := by
      have : (x.add 0) = x := by simp [Addr.add]
      rw [this] at h0
      unfold World.cell? at h0
      split at h0
      · split at h0
        · cases h0
        · rename_i h'; simpa using h'
      · cases h0
    obtain ⟨b, off, sp⟩ := x
    simp only at hs
    subst hs
    refine ⟨b, off, rfl, World.block_lt_of_cell? w _ (by simpa [Addr.add] using h0), fun j u hu => ?_⟩
    have hj : j < len := by have := (List.getElem?_eq_some_iff.1 hu).1; simp at this; omega
    have := hcell j (by omega)
    rw [show (⟨b, off + j, none⟩ : Addr) = (⟨b, off, none⟩ : Addr).add j by unfold Addr.add; split <;> simp_all, this]
    rw [List.getElem?_map, List.getElem?_map, List.getElem?_take] at hu
    rw [if_pos hj, List.getElem?_eq_getElem (by omega)] at hu
    injection hu with hu
    rw [← hu, List.getD_eq_getElem?_getD, List.getElem?_eq_getElem (by omega)]
    have hw := hwf zs[j] (List.getElem_mem _)
    have hw2 : 0 ≤ zs[j] ∧ zs[j] ≤ 255 := by simpa [Lit.wf, IntKind.min, IntKind.max, IntKind.signed, IntKind.bits] using hw
    show some (Value.int .u8 zs[j]) = some (Value.int .u8 ((UInt8.ofNat zs[j].toNat).toNat : Int))
    have e : ((UInt8.ofNat zs[j].toNat).toNat : Int) = zs[j] := by simp; omega
    rw [e]
end Go.Proofs.YtpmflkoepnanoaaDoor
