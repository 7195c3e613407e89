/- An argument that is a slice of bytes reads as the bytes up to its length. -/
import Derived.Test.YtpmflkoepnanoaaRe
namespace Go.Proofs.Ytpmflkoepnanoaa
open Go.RowKit
theorem rdY_of_row {w : World} {a : Option Addr} {len cap : Nat} {zs : List Int} (h : (a = none ∧ len = 0 ∧ cap = 0 ∧ zs = []) ∨
    ∃ x, a = some x ∧ len ≤ cap ∧ cap ≤ maxLen ∧ zs.length = cap ∧ (∀ i, i < zs.length → w.cell? (x.add i) = some (.int .u8 (zs.getD i 0))) ∧ ∀ n ∈ zs, (Lit.int .u8 n).wf = true) :
    RdY w (.slice a len cap) ((zs.take len).map fun n => UInt8.ofNat n.toNat) := by
  rcases h with ⟨rfl, rfl, rfl, rfl⟩ | ⟨x, rfl, hl, hc, hz, hcell, hwf⟩
  · exact Rd.nil_ w 1
  · have hlen : ((zs.take len).map fun n => UInt8.ofNat n.toNat).length = len := by rw [List.length_map, List.length_take]; omega
    refine ⟨by simp, some x, cap, by rw [hlen], by omega, by unfold maxLen at hc; omega, fun hn => ?_⟩
    have h0 := hcell 0 (by omega)
    have hs : x.spot = none := by
      have : (x.add 0) = x := by simp [Addr.add]
      rw [this] at h0
      unfold World.cell? at h0
      split at h0
      · split at h0
        · cases h0
        · rename_i h'; simpa using h'
      · cases h0
    obtain ⟨b, off, sp⟩ := x
    simp only at hs
    subst hs
    refine ⟨b, off, rfl, World.block_lt_of_cell? w _ (by simpa [Addr.add] using h0), fun j u hu => ?_⟩
    have hj : j < len := by have := (List.getElem?_eq_some_iff.1 hu).1; simp at this; omega
    have := hcell j (by omega)
    rw [show (⟨b, off + j, none⟩ : Addr) = (⟨b, off, none⟩ : Addr).add j by unfold Addr.add; split <;> simp_all, this]
    rw [List.getElem?_map, List.getElem?_map, List.getElem?_take] at hu
    rw [if_pos hj, List.getElem?_eq_getElem (by omega)] at hu
    injection hu with hu
    rw [← hu, List.getD_eq_getElem?_getD, List.getElem?_eq_getElem (by omega)]
    have hw := hwf zs[j] (List.getElem_mem _)
    have hw2 : 0 ≤ zs[j] ∧ zs[j] ≤ 255 := by simpa [Lit.wf, IntKind.min, IntKind.max, IntKind.signed, IntKind.bits] using hw
    show some (Value.int .u8 zs[j]) = some (Value.int .u8 ((UInt8.ofNat zs[j].toNat).toNat : Int))
    have e : ((UInt8.ofNat zs[j].toNat).toNat : Int) = zs[j] := by simp; omega
    rw [e]
end Go.Proofs.Ytpmflkoepnanoaa
