/- FnFrames: the law. -/
import Derived.Test.YtpmflkoepnanoaaRa
import Derived.Test.YtpmflkoepnanoaaQa
import Derived.Test.YtpmflkoepnanoaaIj
import Derived.Lib.ConvBytes
import Derived.Laws.BitsAllLaws
import Derived.Deep.RegionHeld3
namespace Go.Proofs.Ytpmflkoepnanoaa
open Go.RowKit
/-- A text as bytes: a new row. -/
theorem conv_bytes (w : World) (s : ByteArray) (hs : s.size ≤ 1073741824) : ∃ cap w4, (convert 9 27 (.string s)).run Try.prog w = .ok (.slice (some ⟨w.heap.size, 0, none⟩) s.size cap) w4 ∧ s.size ≤ cap ∧ cap ≤ 9223372036854775807 ∧ Below w.heap.size w w4 ∧ w4.heap.size = w.heap.size + 1 ∧
    (∀ j, j < s.size → w4.cell? ⟨w.heap.size, j, none⟩ = some (.int .u8 (bA s j : Int))) ∧ (∀ j, j < s.size → w4.frozen? ⟨w.heap.size, j, none⟩ = false) := by
  refine ⟨grownCap w s.size 0 5, Lib.bytesWorld w 5 s, Lib.run_convert_string_bytes w _ _ _ s Try.underlying9 Try.underlying27 Try.underlying5, grownCap_ge _ _ _ _, ?_, ⟨rfl, rfl, rfl, by rw [Lib.bytesWorld_size]; omega, fun j hj => Lib.bytesWorld_at_old w _ s j hj⟩, Lib.bytesWorld_size _ _ _, fun j hj => Lib.bytesWorld_cell w _ s j hj, fun j hj => ?_⟩
  · have := grownCap_le_maxLen w s.size 0 5 (by unfold maxLen; omega)
    unfold maxLen at this
    omega
  · have hsz : s.size ≤ (Lib.bytesCells w 5 s).size := by unfold Lib.bytesCells; rw [Array.size_append, Array.size_map]; exact Nat.le_add_right _ _
    simp [World.frozen?, Lib.bytesWorld_at_new]
    omega
theorem set_read {w : World} {B n cap : Nat} {s : ByteArray} {x : Nat} {z : UInt8} {zn : Nat} (hzn : z.toNat = zn) (hn : n = s.size) (hcap : n ≤ cap) (hc : cap ≤ 9223372036854775807) (hB : B < w.heap.size) (hx : x < s.size)
    (hcell : ∀ j, j < s.size → w.cell? ⟨B, j, none⟩ = some (.int .u8 (bA s j : Int))) : RdY (w.setCell ⟨B, x, none⟩ (.int .u8 (zn : Int))) (.slice (some ⟨B, 0, none⟩) n cap) (s.data.toList.set x z) := by
  subst hn hzn
  have hl : (s.data.toList.set x z).length = s.size := by rw [List.length_set]; exact Array.length_toList
  refine ⟨by simp, some ⟨B, 0, none⟩, cap, by rw [hl], by rw [hl]; exact hcap, hc, fun _ => ⟨B, 0, rfl, by simpa [World.setCell] using hB, fun j u hu => ?_⟩⟩
  rw [List.getElem?_map] at hu
  have hj : j < s.size := by
    rw [← hl]
    by_cases h : j < (s.data.toList.set x z).length
    · exact h
    · rw [List.getElem?_eq_none (by omega)] at hu; simp at hu
  rw [Nat.zero_add]
  by_cases hjx : x = j
  · subst hjx
    rw [List.getElem?_set_self (by rw [← hl] at hj; simpa using hj)] at hu
    have h0 := hcell x hx
    injection hu with hu
    rw [← hu]
    exact World.cell?_setCell_same (h := h0) ..
  · rw [List.getElem?_set_ne hjx] at hu
    have h0 := hcell j hj
    rw [World.cell?_setCell_other (h := (by intro e; injection e with _ e; exact hjx e)), h0, ← hu]
    have hl2 : j < s.data.toList.length := by rw [Array.length_toList]; exact hj
    unfold bA
    rw [List.getD_eq_getElem?_getD, List.getElem?_eq_getElem hl2]
    rfl
end Go.Proofs.Ytpmflkoepnanoaa
