/- Contracts: packed bits of the reference; frames of both sides; the law of EncodeFrame. -/
import Derived.Test.YtpmflkoepnanoaaDoorEa
import Derived.Test.YtpmflkoepnanoaaDoorCb
namespace Go.Proofs.YtpmflkoepnanoaaDoor
open Go.RowKit
theorem calls_gen {P : Program} {f : FuncId} {args : Array Value} {w W : World} {R : Ending → World → Prop} (h : Below w.heap.size w W) (k : ∀ W', Below w.heap.size w W' → Calls P f args W' R) : Calls P f args W R := k W h
/-- The length of a slice value. -/
def lenOf : Value → Nat | .slice _ n _ => n | _ => 0
theorem RdY.below {w w' : World} {v : Value} {bs : List UInt8} (h : RdY w v bs) (hb : Below w.heap.size w w') : RdY w' v bs := Rd.below h hb
theorem RdY.drew {w : World} {v : Value} {bs : List UInt8} (h : RdY w v bs) : RdY w.drew v bs := h
theorem RdY.open_ {w : World} {v : Value} {bs : List UInt8} (h : RdY w v bs) : ∃ A cap, v = .slice A bs.length cap ∧ bs.length ≤ cap ∧ cap ≤ 9223372036854775807 ∧
    (∀ k x, bs[k]? = some x → ∃ b off, A = some ⟨b, off, none⟩ ∧ b < w.heap.size ∧ w.cell? ⟨b, off + k, none⟩ = some (.int .u8 (x.toNat : Int))) := by
  obtain ⟨_, A, cap, rfl, h3, h4, h5⟩ := h
  refine ⟨A, cap, rfl, h3, h4, fun k x hk => ?_⟩
  obtain ⟨b, off, rfl, hb, hc⟩ := h5 (by have := (List.getElem?_eq_some_iff.1 hk).1; omega)
  exact ⟨b, off, rfl, hb, hc k _ (by rw [List.getElem?_map, hk]; rfl)⟩
/-- The bytes of a frame ahead of its check value. -/
def frameL (xs : List Int) (o k : Nat) : List UInt8 := wordL xs.length ++ [UInt8.ofNat o, UInt8.ofNat k] ++ packL (encL (predictF o xs) k)
def frameS (xs : List Int) (o k : Nat) : ByteArray := sealS (mkS (frameL xs o k))
theorem pair_cells (o k : Nat) (ho : o < 256) (hk : k < 256) (w : World) : OwY 5 (w.alloc (.cells #[.int .u8 (o : Int), .int .u8 (k : Int)] 5)) w.heap.size (.slice (some ⟨w.heap.size, 0, none⟩) 2 2) [UInt8.ofNat o, UInt8.ofNat k] := by
  have e1 : ((UInt8.ofNat o).toNat : Int) = (o : Int) := by simp; omega
  have e2 : ((UInt8.ofNat k).toNat : Int) = (k : Int) := by simp; omega
  have := World.ownsRow_lit (base := w.heap.size) (e := 5) (size := 1) w #[.int .u8 (o : Int), .int .u8 (k : Int)] 2 (Nat.le_refl _) (by decide) rfl
  unfold OwY
  simp only [List.length_cons, List.length_nil, List.map_cons, List.map_nil, e1, e2]
  exact this
theorem pair_after {o k : Nat} (ho : o < 256) (hk : k < 256) {w w1 : World} (hb : Below (w.alloc (.cells #[.int .u8 (o : Int), .int .u8 (k : Int)] 5)).heap.size (w.alloc (.cells #[.int .u8 (o : Int), .int .u8 (k : Int)] 5)) w1) :
    (convert 22 9 (.slice (some ⟨w.heap.size, 0, none⟩) 2 2)).run Tryd.prog w1 = .ok (.string (mkS [UInt8.ofNat o, UInt8.ofNat k])) w1 := str_of (RdY.below (pair_cells o k ho hk w).rd hb)
theorem length_packL (bits : List UInt8) : (packL bits).length = (bits.length + 7) / 8 := by simp [packL]
theorem length_encP {xs : List Int} (o k : Nat) (h : ∀ x ∈ xs, Smp x) (hk : k ≤ 30) : (encL (predictF o xs) k).length ≤ 52 * xs.length := by
  have h1 := smp_predictF o xs h
  have h2 := length_encL (k := k) h1
  have h3 := lenF_bd h1 hk
  rw [length_predictF] at h3
  omega
end Go.Proofs.YtpmflkoepnanoaaDoor
