/- Contracts: the check value of the program, words, sealed texts, heads of stores. -/
import Derived.Test.YtpmflkoepnanoaaDoorBa
namespace Go.Proofs.YtpmflkoepnanoaaDoor
open Go.RowKit
theorem word_cells (n : Nat) (h : n ≤ 65535) (w : World) : OwY 5 (w.alloc (.cells #[.int .u8 ((n : Int) / 256), .int .u8 ((n : Int) % 256)] 5)) w.heap.size (.slice (some ⟨w.heap.size, 0, none⟩) 2 2) (wordL n) := by
  have e1 : ((UInt8.ofNat (n / 256)).toNat : Int) = (n : Int) / 256 := by simp; omega
  have e2 : ((UInt8.ofNat (n % 256)).toNat : Int) = (n : Int) % 256 := by simp
  have := World.ownsRow_lit (base := w.heap.size) (e := 5) (size := 1) w #[.int .u8 ((n : Int) / 256), .int .u8 ((n : Int) % 256)] 2 (Nat.le_refl _) (by decide) rfl
  unfold OwY wordL
  simp only [List.length_cons, List.length_nil, List.map_cons, List.map_nil, e1, e2]
  exact this
/-- A text with its check value. -/
def sealS (s : ByteArray) : ByteArray := s ++ mkS (wordL (crcF s.data.toList 65535))
theorem size_sealS (s : ByteArray) : (sealS s).size = s.size + 2 := by
  unfold sealS
  rw [ByteArray.size_append, size_mkS]; rfl
/-- Is the text sealed? -/
def sealedB (s : ByteArray) : Bool := decide (sealS (s.extract 0 (s.size - 2)) = s)
/-- The number of two bytes. -/
def numS (s : ByteArray) (i : Nat) : Nat := 256 * bA s i + bA s (i + 1)
theorem numS_lt (s : ByteArray) (i : Nat) : numS s i < 65536 := by
  have := bA_lt s i; have := bA_lt s (i + 1); unfold numS; omega
end Go.Proofs.YtpmflkoepnanoaaDoor
