/- Contract: changes applied, by the reference. -/
import Derived.Test.YtjbcanihpcfncaaDoorXc
namespace Go.Proofs.YtjbcanihpcfncaaDoor
open Go.RowKit
theorem goodC_next {i : Int} {cs : List Chg} (h : goodC i cs) (hn : ∀ c, cs[0]? = some c → c.p ≠ i) : goodC (i + 1) cs := by
  cases cs with
  | nil => trivial
  | cons c r =>
    have := hn c rfl
    exact ⟨h.1, by have := h.2.1; omega, h.2.2⟩
theorem drop_head {α : Type} {l : List α} {k : Nat} : (l.drop k)[0]? = l[k]? := by simp
theorem all_good {ls : List ByteArray} {cs : List Chg} (h : cs.any (badC ls) = false) (k : Nat) : ∀ c ∈ cs.drop k, badC ls c = false := by
  intro c hc
  have h1 : c ∈ cs := List.mem_of_mem_drop hc
  rw [List.any_eq_false] at h
  have := h c h1
  simpa using this
/-- The state of the second pass: out is laid, i is the place, k changes are done, g says whether the line here is gone. -/
def ApS (ls : List ByteArray) (cs : List Chg) (i k : Nat) (g : Bool) (out : List ByteArray) : Prop :=
  if g then i < ls.length ∧ goodC ((i + 1 : Nat) : Int) (cs.drop k) ∧ out ++ appGo ls (i + 1) (cs.drop k) = appGo ls 0 cs
  else goodC (i : Int) (cs.drop k) ∧ out ++ appGo ls i (cs.drop k) = appGo ls 0 cs
theorem ApS.del {ls : List ByteArray} {cs : List Chg} {i k : Nat} {out : List ByteArray} {c : Chg} (h : ApS ls cs i k false out) (hc : cs[k]? = some c) (hp : c.p = i) (hk : c.k = 1) (hi : i < ls.length) : ApS ls cs i (k + 1) true out := by
  have hk1 := (List.getElem?_eq_some_iff.1 hc).1
  have hk2 := (List.getElem?_eq_some_iff.1 hc).2
  simp only [ApS, Bool.false_eq_true, if_false] at h
  rw [List.drop_eq_getElem_cons hk1, hk2, appGo_del hp hk] at h
  obtain ⟨h1, h2⟩ := h
  simp only [ApS, if_true]
  refine ⟨hi, ?_, h2⟩
  have := h1.2.2.2.2
  rw [if_pos hk, hp] at this
  exact this
theorem ApS.ins {ls : List ByteArray} {cs : List Chg} {i k : Nat} {out : List ByteArray} {c : Chg} (h : ApS ls cs i k false out) (hc : cs[k]? = some c) (hp : c.p = i) (hk : ¬ c.k = 1) : ApS ls cs i (k + 1) false (out ++ [c.t]) := by
  have hk1 := (List.getElem?_eq_some_iff.1 hc).1
  have hk2 := (List.getElem?_eq_some_iff.1 hc).2
  simp only [ApS, Bool.false_eq_true, if_false] at h
  rw [List.drop_eq_getElem_cons hk1, hk2, appGo_ins hp hk] at h
  obtain ⟨h1, h2⟩ := h
  simp only [ApS, Bool.false_eq_true, if_false]
  refine ⟨?_, by rw [List.append_assoc]; exact h2⟩
  have := h1.2.2.2.2
  rw [if_neg hk, hp] at this
  exact this
theorem ApS.not {ls : List ByteArray} {cs : List Chg} {i k : Nat} {out : List ByteArray} {c : Chg} (h : ApS ls cs i k true out) (hc : cs[k]? = some c) : c.p ≠ i := by
  have hk1 := (List.getElem?_eq_some_iff.1 hc).1
  have hk2 := (List.getElem?_eq_some_iff.1 hc).2
  simp only [ApS, if_true] at h
  have h1 := h.2.1
  rw [List.drop_eq_getElem_cons hk1, hk2] at h1
  have := h1.2.1
  omega
theorem ApS.line {ls : List ByteArray} {cs : List Chg} {i k : Nat} {out : List ByteArray} {x : ByteArray} (h : ApS ls cs i k false out) (hn : ∀ c, cs[k]? = some c → c.p ≠ i) (hx : ls[i]? = some x) : ApS ls cs (i + 1) k false (out ++ [x]) := by
  simp only [ApS, Bool.false_eq_true, if_false] at *
  have hg := goodC_next h.1 (by rw [drop_head]; exact hn)
  rw [appGo_line hx hg] at h
  exact ⟨hg, by rw [List.append_assoc]; exact h.2⟩
theorem ApS.gone {ls : List ByteArray} {cs : List Chg} {i k : Nat} {out : List ByteArray} (h : ApS ls cs i k true out) : ApS ls cs (i + 1) k false out := by
  simp only [ApS, Bool.false_eq_true, if_false, if_true] at *
  exact h.2
theorem ApS.done {ls : List ByteArray} {cs : List Chg} {k : Nat} {out : List ByteArray} (h : ApS ls cs ls.length k false out) (hn : ∀ c, cs[k]? = some c → c.p ≠ (ls.length : Int)) (hb : cs.any (badC ls) = false) : out = appGo ls 0 cs := by
  simp only [ApS, Bool.false_eq_true, if_false] at h
  have hg := goodC_next h.1 (by rw [drop_head]; exact hn)
  have := (appGo_end (ls := ls) (cs := cs.drop k) hg (all_good hb k)).1
  rw [this, List.append_nil] at h
  exact h.2
end Go.Proofs.YtjbcanihpcfncaaDoor
