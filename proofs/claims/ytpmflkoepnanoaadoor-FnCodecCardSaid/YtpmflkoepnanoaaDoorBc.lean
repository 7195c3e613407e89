/- Contracts: StoreInfo of both sides; and the law. -/
import Derived.Test.YtpmflkoepnanoaaDoorBb
namespace Go.Proofs.YtpmflkoepnanoaaDoor
open Go.RowKit
def stemB (s : ByteArray) : Bool := (s.extract 0 4).toList == [83, 84, 69, 77]
def headB (s : ByteArray) : Bool := decide (sealS (s.extract 0 8) = s.extract 0 10)
def okB (s : ByteArray) : Bool := inB (numS s 4 : Int) 16 256 && decide (numS s 6 ≤ 4000)
/-- The head of a store: samples, frame size, code. -/
def infoF (s : ByteArray) : Int × Int × Int :=
  if s.size < 10 then (0, 0, 11) else if stemB s = false then (0, 0, 9) else if headB s = false then (0, 0, 10) else if okB s = true then ((numS s 6 : Nat), (numS s 4 : Nat), 0) else (0, 0, 9)
def Info (s : ByteArray) (w : World) (e : Ending) (w' : World) : Prop := e = .returned (.tuple #[.int .i64 (infoF s).1, .int .i64 (infoF s).2.1, .int .i64 (infoF s).2.2]) ∧ Below w.heap.size w w'
theorem Info.mk {s : ByteArray} {w w' : World} {a b c : Int} (h : infoF s = (a, b, c)) (hb : Below w.heap.size w w') : Info s w (.returned (.tuple #[.int .i64 a, .int .i64 b, .int .i64 c])) w' := ⟨by rw [h], hb⟩
theorem headB_impl (s : ByteArray) (h : 10 ≤ s.size) : sealedB (s.extract 0 10) = headB s := by
  unfold sealedB headB
  rw [size_ext0 s 10 h, extract_extract s 10 8 (by omega) h]
end Go.Proofs.YtpmflkoepnanoaaDoor
