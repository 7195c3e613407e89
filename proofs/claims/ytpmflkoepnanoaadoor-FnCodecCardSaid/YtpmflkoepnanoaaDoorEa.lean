/- Contracts: bits as packed bytes. -/
import Derived.Test.YtpmflkoepnanoaaDoorDb
import Derived.Test.YtpmflkoepnanoaaDoorBb
namespace Go.Proofs.YtpmflkoepnanoaaDoor
open Go.RowKit
theorem OwY.of_made {w : World} {B n : Nat} {v : Value} (h : w.ownsRow B 5 1 v n (madeCells #[Value.int .u8 0] n).toList) : OwY 5 w B v (List.replicate n 0) := by
  unfold OwY
  have e : (madeCells #[Value.int .u8 0] n).toList = List.replicate n (Value.int .u8 0) := toList_madeCells_one _ n
  rw [e] at h
  simpa using h
theorem OwY.sizeN {w : World} {E : TypeId} {B g n cap : Nat} {bs : List UInt8} (h : OwY E w B (.slice (some ⟨g, 0, none⟩) n cap) bs) : n = bs.length := by
  rcases h.2 with ⟨h', _⟩ | ⟨g', cap', cur, h', _⟩
  · cases h'
  · injection h'
theorem OwY.cellN {w : World} {E : TypeId} {B g n cap : Nat} {bs : List UInt8} (h : OwY E w B (.slice (some ⟨g, 0, none⟩) n cap) bs) {j : Nat} {x : UInt8} (hj : bs[j]? = some x) : w.cell? ⟨g, j, none⟩ = some (.int .u8 (x.toNat : Int)) := by
  have hl := (List.getElem?_eq_some_iff.1 hj).1
  have hn := h.sizeN
  subst hn
  have := World.ownsRow.cellAt h j (by omega)
  rw [this, List.getElem?_map, hj]; rfl
theorem OwY.freeN {w : World} {E : TypeId} {B g n cap : Nat} {bs : List UInt8} (h : OwY E w B (.slice (some ⟨g, 0, none⟩) n cap) bs) (j : Nat) : w.frozen? ⟨g, j, none⟩ = false := by
  have hn := h.sizeN
  subst hn
  exact World.ownsRow.frozenAt h j
theorem OwY.setN {w : World} {E : TypeId} {B g n cap : Nat} {bs : List UInt8} (h : OwY E w B (.slice (some ⟨g, 0, none⟩) n cap) bs) (j : Nat) (x : UInt8) : OwY E (w.setCell ⟨g, j, none⟩ (.int .u8 (x.toNat : Int))) B (.slice (some ⟨g, 0, none⟩) n cap) (bs.set j x) := by
  have hn := h.sizeN
  subst hn
  have := (World.ownsRow.stored h j (.int .u8 (x.toNat : Int))).1
  unfold OwY
  rw [List.map_set, List.length_set]
  exact this
theorem OwY.form {w : World} {E : TypeId} {B : Nat} {v : Value} {bs : List UInt8} (h : OwY E w B v bs) (hn : 0 < bs.length) : ∃ g cap, v = .slice (some ⟨g, 0, none⟩) bs.length cap ∧ bs.length ≤ cap ∧ B ≤ g ∧ g < w.heap.size := by
  rcases h.2 with ⟨_, h0⟩ | ⟨g, cap, cur, rfl, hbg, hg, hnc, _⟩
  · omega
  · exact ⟨g, cap, rfl, hnc, hbg, (Array.getElem?_eq_some_iff.1 hg).1⟩
theorem shr128 (c : Nat) (h : c < 8) : (128 : Int) / 2 ^ c = ((2 ^ (7 - c) : Nat) : Int) := by
  have : c = 0 ∨ c = 1 ∨ c = 2 ∨ c = 3 ∨ c = 4 ∨ c = 5 ∨ c = 6 ∨ c = 7 := by omega
  rcases this with rfl | rfl | rfl | rfl | rfl | rfl | rfl | rfl <;> rfl
theorem or_byte {l : List UInt8} {k : Nat} (h : bitN l k = 1) : Go.bits .or .u8 ((outAt l k (k / 8) : Nat) : Int) (128 / 2 ^ (k % 8)) = ((UInt8.ofNat (outAt l (k + 1) (k / 8))).toNat : Int) := by
  have h1 := outAt_lt l k (k / 8)
  have h2 := outAt_lt l (k + 1) (k / 8)
  have h3 : 2 ^ (7 - k % 8) ≤ 2 ^ 7 := Nat.pow_le_pow_right (by omega) (by omega)
  rw [shr128 _ (Nat.mod_lt _ (by omega)), u8_or_nat _ _ h1 (by omega), outAt_or h]
  simp; omega
end Go.Proofs.YtpmflkoepnanoaaDoor
