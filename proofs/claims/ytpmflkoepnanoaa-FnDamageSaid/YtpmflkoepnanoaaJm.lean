/- Contracts: a frame of a store that is replaced; both sides. -/
import Derived.Test.YtpmflkoepnanoaaJa
import Derived.Deep.RegionHeld3
namespace Go.Proofs.Ytpmflkoepnanoaa
open Go.RowKit
theorem Opn.cells {s : ByteArray} {t : List Nat} (h : Opn s t) {j : Nat} (hj : j < cntF s) {w : World} {A : Option Addr} {l cap : Nat} (hr : RdI w (.slice A l cap) (t.map fun (x : Nat) => (x : Int))) :
    ∃ b off, A = some ⟨b, off, none⟩ ∧ b < w.heap.size ∧ w.cell? ⟨b, off + j, none⟩ = some (.int .i64 (plc s j : Nat)) ∧ w.cell? ⟨b, off + (j + 1), none⟩ = some (.int .i64 (plc s (j + 1) : Nat)) ∧ l = cntF s + 1 ∧ l ≤ cap ∧ cap ≤ 9223372036854775807 := by
  have hk := (h.lt hj).1
  obtain ⟨A', cap', he, hl, hc, hx⟩ := hr.open_
  injection he with h1 h2 h3
  subst h1 h3
  have hta : t[j]? = some (plc s j) := by rw [h.plcs j, List.getD_eq_getElem?_getD, List.getElem?_eq_getElem (show j < t.length by omega)]; rfl
  have htb : t[j + 1]? = some (plc s (j + 1)) := by rw [h.plcs (j + 1), List.getD_eq_getElem?_getD, List.getElem?_eq_getElem hk]; rfl
  obtain ⟨B, off, rfl, hB, hca⟩ := hx j (plc s j : Nat) (by rw [List.getElem?_map, hta]; rfl)
  obtain ⟨B2, off2, hE, _, hcb⟩ := hx (j + 1) (plc s (j + 1) : Nat) (by rw [List.getElem?_map, htb]; rfl)
  injection hE with hE
  injection hE with h1' h2'
  subst h1' h2'
  have hlen : (t.map fun (x : Nat) => (x : Int)).length = cntF s + 1 := by rw [List.length_map]; exact h.len
  exact ⟨B, off, rfl, hB, hca, hcb, by rw [h2, hlen], by rw [h2]; exact hl, hc⟩
theorem Opn.le {s : ByteArray} {t : List Nat} (h : Opn s t) {j : Nat} (hj : j < cntF s) : plc s j + 2 ≤ plc s (j + 1) ∧ plc s (j + 1) ≤ s.size := by
  have hk := (h.lt hj).1
  rw [h.plcs j, h.plcs (j + 1)]
  exact ⟨h.steps.1 j hk, h.steps.2 (j + 1) hk⟩
def StR (p : ByteArray × Int) (w : World) (e : Ending) (w' : World) : Prop := e = .returned (.tuple #[.string p.1, .int .i64 p.2]) ∧ Below w.heap.size w w'
theorem StR.mk {p : ByteArray × Int} {w w' : World} {a : ByteArray} {c : Int} (h : p = (a, c)) (hb : Below w.heap.size w w') : StR p w (.returned (.tuple #[.string a, .int .i64 c])) w' := ⟨by rw [h], hb⟩
def rplF (s : ByteArray) (k : Int) (xs : List Int) : ByteArray × Int :=
  if sigB xs = false then (⟨#[]⟩, 1) else if (placesF s).2 ≠ 0 then (⟨#[]⟩, (placesF s).2) else if inB k 0 ((cntF s : Int) - 1) = false then (⟨#[]⟩, 2)
  else if xs.length ≠ lenK (numS s 6) (numS s 4) k.toNat then (⟨#[]⟩, 6) else (s.extract 0 (plc s k.toNat) ++ bodyS xs ++ s.extract (plc s (k.toNat + 1)) s.size, 0)
section
variable {s : ByteArray} {k : Int} {j : Nat} {xs ps : List Int} {c : Int}
theorem rpl1 (h : sigB xs = false) : rplF s k xs = (⟨#[]⟩, 1) := by unfold rplF; rw [if_pos h]
theorem rpl2 (h : sigB xs = true) (hp : placesF s = (ps, c)) (hc : c ≠ 0) : rplF s k xs = (⟨#[]⟩, c) := by unfold rplF; rw [if_neg (by rw [h]; simp), hp]; exact if_pos hc
theorem rpl3 (h : sigB xs = true) (hp : placesF s = (ps, 0)) (hk : inB k 0 ((cntF s : Int) - 1) = false) : rplF s k xs = (⟨#[]⟩, 2) := by unfold rplF; rw [if_neg (by rw [h]; simp), hp]; simp only; rw [if_neg (by simp), if_pos hk]
theorem rpl4 (h : sigB xs = true) (hp : placesF s = (ps, 0)) (hk : inB (j : Int) 0 ((cntF s : Int) - 1) = true) (hl : xs.length ≠ lenK (numS s 6) (numS s 4) j) : rplF s (j : Int) xs = (⟨#[]⟩, 6) := by
  unfold rplF; rw [if_neg (by rw [h]; simp), hp]; simp only; rw [if_neg (by simp), if_neg (by rw [hk]; simp)]; simp only [Int.toNat_natCast]; rw [if_pos hl]
theorem rpl5 (h : sigB xs = true) (hp : placesF s = (ps, 0)) (hk : inB (j : Int) 0 ((cntF s : Int) - 1) = true) (hl : xs.length = lenK (numS s 6) (numS s 4) j) : rplF s (j : Int) xs = (s.extract 0 (plc s j) ++ bodyS xs ++ s.extract (plc s (j + 1)) s.size, 0) := by
  unfold rplF; rw [if_neg (by rw [h]; simp), hp]; simp only; rw [if_neg (by simp), if_neg (by rw [hk]; simp)]; simp only [Int.toNat_natCast]; rw [if_neg (by simpa using hl)]
end
end Go.Proofs.Ytpmflkoepnanoaa
