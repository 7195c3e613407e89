/- Contracts: frames of the program; EncodeFrame of both sides; the law. -/
import Derived.Test.YtpmflkoepnanoaaDoorEb
namespace Go.Proofs.YtpmflkoepnanoaaDoor
open Go.RowKit
/-- EncodeFrame: the frame and the code. -/
def encFrF (xs : List Int) : ByteArray × Int := if sigB xs then (if 256 < xs.length then (⟨#[]⟩, 5) else (frameS xs (ordR xs).1 (ordR xs).2, 0)) else (⟨#[]⟩, 1)
def EncFr (xs : List Int) (w : World) (e : Ending) (w' : World) : Prop := e = .returned (.tuple #[.string (encFrF xs).1, .int .i64 (encFrF xs).2]) ∧ Below w.heap.size w w'
theorem EncFr.mk {xs : List Int} {w w' : World} {a : ByteArray} {c : Int} (h : encFrF xs = (a, c)) (hb : Below w.heap.size w w') : EncFr xs w (.returned (.tuple #[.string a, .int .i64 c])) w' := ⟨by rw [h], hb⟩
end Go.Proofs.YtpmflkoepnanoaaDoor
