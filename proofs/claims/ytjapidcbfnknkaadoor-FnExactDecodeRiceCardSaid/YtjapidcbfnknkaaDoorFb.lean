/- Contracts: StoreSignal of both sides; the law. -/
import Derived.Test.YtjapidcbfnknkaaDoorFa
namespace Go.Proofs.YtjapidcbfnknkaaDoor
open Go.RowKit
def storeF (xs : List Int) (m : Int) : ByteArray × Int := if sigB xs then (if inB m 16 256 then (storeS xs m.toNat, 0) else (⟨#[]⟩, 2)) else (⟨#[]⟩, 1)
def StoR (xs : List Int) (m : Int) (w : World) (e : Ending) (w' : World) : Prop := e = .returned (.tuple #[.string (storeF xs m).1, .int .i64 (storeF xs m).2]) ∧ Below w.heap.size w w'
theorem StoR.mk {xs : List Int} {m : Int} {w w' : World} {a : ByteArray} {c : Int} (h : storeF xs m = (a, c)) (hb : Below w.heap.size w w') : StoR xs m w (.returned (.tuple #[.string a, .int .i64 c])) w' := ⟨by rw [h], hb⟩
end Go.Proofs.YtjapidcbfnknkaaDoor
