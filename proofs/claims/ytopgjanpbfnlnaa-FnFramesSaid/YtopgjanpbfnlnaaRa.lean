/- Contracts: the source of drawn numbers. -/
import Derived.Test.YtopgjanpbfnlnaaLk
import Derived.Test.YtopgjanpbfnlnaaAd
import Derived.Laws.Bits64b
namespace Go.Proofs.Ytopgjanpbfnlnaa
open Go.RowKit
/-- A source: the text's bytes, how many are used, and a number that is not asked for. -/
def Src (w : World) (g : Nat) (cv : Value) (at' : Nat) : Prop := ∃ z : Nat, z < 2 ^ 64 ∧ Bk w g 109 #[cv, .int .i64 (at' : Int), .int .u64 (z : Int)]
def NxR (g : Nat) (cv : Value) (at' : Nat) (w : World) (e : Ending) (w' : World) : Prop := ∃ x : Nat, e = .returned (.int .i64 (x : Int)) ∧ x ≤ 255 ∧ Src w' g cv (at' + 1) ∧ Gr g w w'
theorem u64_nat (n : Int) : ∃ m : Nat, m < 2 ^ 64 ∧ IntKind.u64.wrap n = (m : Int) := by
  have h : 0 ≤ IntKind.u64.wrap n ∧ IntKind.u64.wrap n < 18446744073709551616 := by
    unfold IntKind.wrap; simp [IntKind.bits, IntKind.signed]; omega
  exact ⟨(IntKind.u64.wrap n).toNat, by omega, by omega⟩
theorem and_low (q : Int) : ∃ x : Nat, x ≤ 255 ∧ wrap64 (bits .and .u64 (IntKind.u64.wrap q / 1099511627776) 255) = (x : Int) := by
  obtain ⟨m, hm, e⟩ := u64_nat q
  have e2 : (m : Int) / 1099511627776 = ((m / 1099511627776 : Nat) : Int) := by simp
  have h := bits_and_u64_nat (m / 1099511627776) 255 (by omega) (by omega)
  have hle : (m / 1099511627776) &&& 255 ≤ 255 := Nat.and_le_right
  refine ⟨(m / 1099511627776) &&& 255, hle, ?_⟩
  rw [e, e2]
  rw [show bits .and .u64 ((m / 1099511627776 : Nat) : Int) 255 = (((m / 1099511627776) &&& 255 : Nat) : Int) from h]
  exact IntWalk.wrap64_in _ (by omega)
theorem src_set {w : World} {g : Nat} {cv u : Value} {at' : Nat} {q : Int} (h : Bk w g 109 #[cv, .int .i64 (at' : Int), u]) : Src (w.setCell ⟨g, 2, none⟩ (.int .u64 (IntKind.u64.wrap q))) g cv at' := by
  obtain ⟨m, hm, e⟩ := u64_nat q
  refine ⟨m, hm, ?_⟩
  rw [e]
  exact h.set_ 2 _
theorem NxR.mk {g : Nat} {cv : Value} {at' : Nat} {w w' : World} {n : Int} (h : ∃ x : Nat, x ≤ 255 ∧ n = (x : Int)) (hs : Src w' g cv (at' + 1)) (hg : Gr g w w') : NxR g cv at' w (.returned (.int .i64 n)) w' := by
  obtain ⟨x, hx, rfl⟩ := h
  exact ⟨x, rfl, hx, hs, hg⟩
theorem Src.drewN {w : World} {g : Nat} {cv : Value} {at' : Nat} (h : Src w g cv at') (n : Nat) : Src (w.drewN n) g cv at' := h
set_option maxHeartbeats 1000000 in
set_option maxRecDepth 100000 in
theorem c_next (g : Nat) (cv : Value) (bs : List UInt8) (at' : Nat) (w : World) (h : Src w g cv at') (hr : RdY w cv bs) (hat : at' ≤ 1073741824) (hbs : bs.length ≤ 1073741824) :
    Calls Try.prog 152 #[.pointer (some ⟨g, 0, none⟩)] w (NxR g cv at' w) := by
  obtain ⟨z, hz, hbk⟩ := h
  obtain ⟨_, A, cap, rfl, hl, hc, hx⟩ := hr
  have c0 := hbk.cell 0; have c1 := hbk.cell 1; have c2 := hbk.cell 2
  have f0 := hbk.free 0; have f1 := hbk.free 1; have f2 := hbk.free 2
  simp at c0 c1 c2
  have HBK := hide hbk; have HZ := hide hz; clear hbk hz
  by_cases hlt : at' < bs.length
  · obtain ⟨b, off, rfl, hb, hcell⟩ := hx (by omega)
    have hce := hcell at' (.int .u8 (bs[at'].toNat : Int)) (by rw [List.getElem?_map, List.getElem?_eq_getElem hlt]; rfl)
    have hb8 := UInt8.toNat_lt bs[at']
    have a1 : (at' : Int) < (bs.length : Int) := by omega
    have a2 : (at' : Int) + 1 ≤ (bs.length : Int) := by omega
    generalize bs[at'].toNat = y at *
    clear hcell hx
    go_enter Try.func152, Try.ntmps152
    go_wp2
    go_quiet (fail)
    go_wp2
    go_quiet (fail)
    go_wp2
    go_quiet (fail)
    go_wp2
    go_ret
    exact NxR.mk ⟨y, by omega, rfl⟩ ((src_set ((HBK.out.drewN _).set_ 1 _)).drewN _) ((((Gr.refl g w).drewN _).set_ 1 _).set_ 2 _ |>.drewN _)
  · have a1 : ¬ (at' : Int) < (bs.length : Int) := by omega
    have a2 : ¬ (at' : Int) + 1 ≤ (bs.length : Int) := by omega
    go_enter Try.func152, Try.ntmps152
    go_wp2
    go_quiet (fail)
    go_wp2
    go_quiet (fail)
    go_wp2
    go_ret
    exact NxR.mk (and_low _) ((src_set ((HBK.out.drewN _).set_ 1 _)).drewN _) ((((Gr.refl g w).drewN _).set_ 1 _).set_ 2 _ |>.drewN _)
end Go.Proofs.Ytopgjanpbfnlnaa
