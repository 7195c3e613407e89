/- The table of powers of ten, out of what the row of DiffSessions lists. -/
import Derived.Test.YtbgedljbgkcpiaaGreatDoorQBjExactDiffSessions
import Derived.LaidMore
import Derived.ProofKit
import Derived.OpenShut
set_option linter.unusedVariables false
set_option linter.unusedSimpArgs false

namespace Go.Proofs.YtbgedljbgkcpiaaGreatDoor
open Go.RowKit Go.ChangeShapes Go.WideShapes
theorem tb_of_laidD {W:World} (h:laidMetH Tryz.prog Rows.fnExactDiffSessionsRow.laid W):TB W:=by
 rw[MakeChecks.laidMetH_plain _ _ _ (by kernel_rfl)] at h
 obtain⟨ps,⟨g0,t0,cs0,f0,p0,q0,hg0,ht0,hv0,hd0,⟨g1,t1,cs1,f1,p1,q1,hg1,ht1,hv1,hd1,⟨g2,t2,cs2,f2,p2,q2,hg2,ht2,hv2,hd2,_,_⟩,_⟩,_⟩,_,_⟩:=h
 obtain rfl:=Option.some.inj ((show Tryz.prog.globalNamed "internal/strconv.uint64pow10" =some 1 by kernel_rfl).symm.trans hg2)
 obtain rfl:=Option.some.inj ((show (Tryz.prog.globals[(1:Nat)]?).map (·.type)=some 235 by kernel_rfl).symm.trans ht2)
 unfold TB Lib.TabIs
 rw[hv2,←Lib.cells_of_tab (k:= .u64) (zs:=Lib.pow10Tab) Tryz.underlying235 Tryz.underlying223 (by kernel_rfl) (by kernel_rfl) hd2]
end Go.Proofs.YtbgedljbgkcpiaaGreatDoor
