/- Contract: the changes from a text to another one, by both sides. -/
import Derived.Test.YtpmflkoepnanoaaDoorZe
import Derived.Test.YtpmflkoepnanoaaDoorZg
import Derived.Test.YtpmflkoepnanoaaDoorVf
import Derived.Test.YtpmflkoepnanoaaDoorXe
namespace Go.Proofs.YtpmflkoepnanoaaDoor
open Go.RowKit
def dtF (a b : ByteArray) : List Chg × Int := if textB a && textB b then (diffF 0 (linesF a) (linesF b), 0) else ([], 1)
theorem text_len {s : ByteArray} (h : textB s = true) : (linesF s).length ≤ 200 := by simp [textB] at h; exact h.2
theorem dtF_len (a b : ByteArray) : (dtF a b).1.length ≤ 400 := by
  unfold dtF
  split
  · next h =>
    simp only [Bool.and_eq_true] at h
    have h1 := text_len h.1; have h2 := text_len h.2
    have := length_diffF 0 (linesF a) (linesF b)
    show (diffF 0 (linesF a) (linesF b)).length ≤ 400
    omega
  · simp
end Go.Proofs.YtpmflkoepnanoaaDoor
