/- LinesOf: the law. -/
import Derived.Test.YtpmflkoepnanoaaDoorVe
namespace Go.Proofs.YtpmflkoepnanoaaDoor
open Go.RowKit
theorem cs_L (s : ByteArray) (T : Bool) (ls : List ByteArray) (w : World) (hs : s.size ≤ 1048576) (hp : textB s = T ∧ (if textB s then linesF s else []) = ls) : Calls Tryd.prog 42 #[.string s] w fun e w' => ∃ v, e = .returned (.tuple #[v, .bool T]) ∧ OwS 9 w' w.heap.size v ls ∧ Below w.heap.size w w' := by
  obtain ⟨h1, h2⟩ := hp
  have := c_sLines s w hs
  rw [h1] at this h2
  rw [h2] at this
  exact this
end Go.Proofs.YtpmflkoepnanoaaDoor
