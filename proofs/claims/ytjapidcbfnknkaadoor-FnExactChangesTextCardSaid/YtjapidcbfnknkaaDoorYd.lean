/- The table of powers of ten, out of a row's condition. -/
import Derived.Test.YtjapidcbfnknkaaDoorYc
import Derived.LaidMore
import Derived.ProofKit
import Derived.OpenShut
namespace Go.Proofs.YtjapidcbfnknkaaDoor
open Go.RowKit Go.ChangeShapes Go.WideShapes
theorem tb_of_laid {W : World} (h : laidMetH Tryd.prog Rows.fnExactChangesTextRow.laid W) : TB W := by
  rw [MakeChecks.laidMetH_plain _ _ _ (by kernel_rfl)] at h
  obtain ⟨ps, ⟨g0, t0, cs0, f0, p0, q0, hg0, ht0, hv0, hd0, ⟨g1, t1, cs1, f1, p1, q1, hg1, ht1, hv1, hd1, ⟨g2, t2, cs2, f2, p2, q2, hg2, ht2, hv2, hd2, _, _⟩, _⟩, _⟩, _, _⟩ := h
  obtain rfl := Option.some.inj ((show Tryd.prog.globalNamed "internal/strconv.uint64pow10" = some 3 by kernel_rfl).symm.trans hg2)
  obtain rfl := Option.some.inj ((show (Tryd.prog.globals[(3 : Nat)]?).map (·.type) = some 192 by kernel_rfl).symm.trans ht2)
  unfold TB Lib.TabIs
  rw [hv2, ← Lib.cells_of_tab (k := .u64) (zs := Lib.pow10Tab) Tryd.underlying192 Tryd.underlying105 (by kernel_rfl) (by kernel_rfl) hd2]
end Go.Proofs.YtjapidcbfnknkaaDoor
