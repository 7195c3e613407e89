/- The tables that ReadChanges reads, out of a row's condition. -/
import Derived.Test.YtjbcanihpcfncaaDoorYk
import Derived.LaidMore
import Derived.ProofKit
import Derived.OpenShut
namespace Go.Proofs.YtjbcanihpcfncaaDoor
open Go.RowKit Go.ChangeShapes Go.WideShapes
theorem trod_iface {H : Type} {enc : TypeId × Value → H} {P : Program} {W : World} {b : Nat} {sp : Nat → Bool} {hd : Bool} {fuel : Nat} {t : TypeId} {ms : Array (String × TypeId)} {cs : List Value} {x : DataW H × List MemPlace}
    (ht : P.underlying t = some (.interface ms)) (h : DataW.trod enc P W b sp hd fuel t cs = some x) : ∃ v, cs = [v] ∧ (v = .nilIface ∨ ∃ u y, v = .iface u y) := by
  cases fuel with
  | zero => simp [DataW.trod] at h
  | succ n =>
    unfold DataW.trod at h
    simp only [ht] at h
    split at h <;> first | exact ⟨_, rfl, .inl rfl⟩ | exact ⟨_, rfl, .inr ⟨_, _, rfl⟩⟩ | (exfalso; simp_all; done)
theorem tb_ev_of_laid {W : World} (h : laidMetH Tryd.prog Rows.fnExactReadChangesRow.laid W) : TB W ∧ EV W := by
  rw [MakeChecks.laidMetH_plain _ _ _ (by kernel_rfl)] at h
  obtain ⟨ps, ⟨g0, t0, cs0, f0, p0, q0, hg0, ht0, hv0, hd0, ⟨g1, t1, cs1, f1, p1, q1, hg1, ht1, hv1, hd1, ⟨g2, t2, cs2, f2, p2, q2, hg2, ht2, hv2, hd2, ⟨g3, t3, cs3, f3, p3, q3, hg3, ht3, hv3, hd3, ⟨g4, t4, cs4, f4, p4, q4, hg4, ht4, hv4, hd4, ⟨g5, t5, cs5, f5, p5, q5, hg5, ht5, hv5, hd5, _, _⟩, _⟩, _⟩, _⟩, _⟩, _⟩, _, _⟩ := h
  obtain rfl := Option.some.inj ((show Tryd.prog.globalNamed "internal/strconv.uint64pow10" = some 3 by kernel_rfl).symm.trans hg2)
  obtain rfl := Option.some.inj ((show (Tryd.prog.globals[(3 : Nat)]?).map (·.type) = some 92 by kernel_rfl).symm.trans ht2)
  obtain rfl := Option.some.inj ((show Tryd.prog.globalNamed "strconv.ErrRange" = some 2 by kernel_rfl).symm.trans hg4)
  obtain rfl := Option.some.inj ((show (Tryd.prog.globals[(2 : Nat)]?).map (·.type) = some 58 by kernel_rfl).symm.trans ht4)
  obtain rfl := Option.some.inj ((show Tryd.prog.globalNamed "strconv.ErrSyntax" = some 1 by kernel_rfl).symm.trans hg5)
  obtain rfl := Option.some.inj ((show (Tryd.prog.globals[(1 : Nat)]?).map (·.type) = some 58 by kernel_rfl).symm.trans ht5)
  refine ⟨?_, ?_, ?_⟩
  · unfold TB Lib.TabIs
    rw [hv2, ← Lib.cells_of_tab (k := .u64) (zs := Lib.pow10Tab) Tryd.underlying92 Tryd.underlying72 (by kernel_rfl) (by kernel_rfl) hd2]
  · obtain ⟨v, e, hv⟩ := trod_iface Tryd.underlying58 hd5
    refine ⟨v, ?_, hv⟩
    have := World.var?_cell hg5 hv5 0
    rw [show cs5 = #[v] by rw [← Array.toArray_toList (xs := cs5), e]] at this
    simpa using this
  · obtain ⟨v, e, hv⟩ := trod_iface Tryd.underlying58 hd4
    refine ⟨v, ?_, hv⟩
    have := World.var?_cell hg4 hv4 0
    rw [show cs4 = #[v] by rw [← Array.toArray_toList (xs := cs4), e]] at this
    simpa using this
end Go.Proofs.YtjbcanihpcfncaaDoor
