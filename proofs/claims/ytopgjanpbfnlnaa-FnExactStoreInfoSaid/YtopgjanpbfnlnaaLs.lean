/- The law FnExactStoreInfo. -/
import Derived.Test.YtopgjanpbfnlnaaBc
namespace Go.Proofs.Ytopgjanpbfnlnaa
open Go.RowKit
set_option maxHeartbeats 800000 in
set_option maxRecDepth 100000 in
theorem law_StoreInfo (s : ByteArray) (w : World) : Calls Try.prog 3 #[.string s] w fun e w' => e = .returned (.bool true) ∧ Below w.heap.size w w' := by
  by_cases hn : s.size ≤ 1048576
  · generalize hp : infoF s = p at *
    have HP := hide hp; clear hp
    go_enter Try.func3, Try.ntmps3
    go_wp2_with fail
    refine (c_sStoreInfo s _ (by omega)).mono ?_; rintro e w1 ⟨rfl, hb1⟩; rw [HP.out]
    have HB1 := hide hb1; clear hb1
    go_wp2_with fail
    refine (c_iStoreInfo s _ (by omega)).mono ?_; rintro e w2 ⟨rfl, hb2⟩; rw [HP.out]
    have HB2 := hide (bthen HB1.out HB1.out.size hb2); clear hb2 HB1
    go_wp2
    go_ret
    exact ⟨rfl, HB2.out⟩
  · go_enter Try.func3, Try.ntmps3
    go_wp2
    go_ret
    exact ⟨rfl, Below.refl _ _⟩
end Go.Proofs.Ytopgjanpbfnlnaa
