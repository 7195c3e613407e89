/- Plain functions on texts: changes applied, merged, joined. No program is named here. -/
import Derived.Test.YtjbcanihpcfncaaDoorTa
namespace Go.Proofs.YtjbcanihpcfncaaDoor
/-- Changes in order, all of them from place i on. -/
def goodC : Int → List Chg → Prop
  | _, [] => True
  | i, c :: r => (c.k = 1 ∨ c.k = 2) ∧ i ≤ c.p ∧ c.p ≤ 200 ∧ (¬ (10 : UInt8) ∈ c.t.data.toList) ∧ goodC (if c.k = 1 then c.p + 1 else c.p) r
def lowAt (cs : List Chg) : Nat → Int
  | 0 => 0
  | j + 1 => match cs[j]? with
    | none => 0
    | some c => if c.k = 1 then c.p + 1 else c.p
theorem goodC_drop {cs : List Chg} (h : chgTo cs cs.length = true) : ∀ (m k : Nat), cs.length = k + m → goodC (lowAt cs k) (cs.drop k) := by
  intro m
  induction m with
  | zero => intro k hk; rw [List.drop_eq_nil_of_le (by omega)]; trivial
  | succ m ih =>
    intro k hk
    have hlt : k < cs.length := by omega
    have hat := chgTo_true.1 h k hlt
    rw [List.drop_eq_getElem_cons hlt]
    have hg : cs[k]? = some cs[k] := List.getElem?_eq_getElem hlt
    unfold chgAt at hat
    rw [hg] at hat
    simp only [Bool.and_eq_true, chgOk, inB_true, decide_eq_true_eq] at hat
    obtain ⟨⟨⟨h1, h2⟩, h3⟩, h4⟩ := hat
    refine ⟨by omega, ?_, h2.2, h3, ?_⟩
    · cases k with
      | zero => exact h2.1
      | succ j =>
        have hj : cs[j]? = some cs[j] := List.getElem?_eq_getElem (by omega)
        simp only [lowAt, hj]
        simp only [hj, chgNext, Bool.or_eq_true, Bool.and_eq_true, decide_eq_true_eq] at h4
        split <;> omega
    · have := ih (k + 1) (by omega)
      simpa only [lowAt, hg] using this
theorem goodC_of {cs : List Chg} (h : chgS cs = true) : goodC 0 cs := by
  have := goodC_drop (by simp [chgS] at h; exact h.2) cs.length 0 (by omega)
  simpa [lowAt] using this
theorem goodC_mono {i j : Int} (hij : j ≤ i) : ∀ {cs : List Chg}, goodC i cs → goodC j cs := by
  intro cs h
  cases cs with
  | nil => trivial
  | cons c r => exact ⟨h.1, by have := h.2.1; omega, h.2.2⟩
/-- A change that does not fit the lines. -/
def badC (ls : List ByteArray) (c : Chg) : Bool := decide ((ls.length : Int) < c.p) || (decide (c.k = 1) && decide (ls[c.p.toNat]? ≠ some c.t))
/-- The lines behind the changes, from a place on. -/
def appGo (ls : List ByteArray) : Nat → List Chg → List ByteArray
  | n, [] => ls.drop n
  | n, c :: r => (ls.drop n).take (c.p.toNat - n) ++ if c.k = 1 then appGo ls (c.p.toNat + 1) r else c.t :: appGo ls c.p.toNat r
theorem appGo_del {ls : List ByteArray} {i : Nat} {c : Chg} {r : List Chg} (hp : c.p = i) (hk : c.k = 1) : appGo ls i (c :: r) = appGo ls (i + 1) r := by
  have : c.p.toNat = i := by omega
  simp [appGo, this, hk]
theorem appGo_ins {ls : List ByteArray} {i : Nat} {c : Chg} {r : List Chg} (hp : c.p = i) (hk : c.k ≠ 1) : appGo ls i (c :: r) = c.t :: appGo ls i r := by
  have : c.p.toNat = i := by omega
  simp [appGo, this, hk]
theorem appGo_line {ls : List ByteArray} {i : Nat} {x : ByteArray} {cs : List Chg} (hx : ls[i]? = some x) (h : goodC (i + 1) cs) : appGo ls i cs = x :: appGo ls (i + 1) cs := by
  have hi := (List.getElem?_eq_some_iff.1 hx).1
  have hxx : ls[i] = x := (List.getElem?_eq_some_iff.1 hx).2
  have hd : ls.drop i = x :: ls.drop (i + 1) := by rw [List.drop_eq_getElem_cons hi, hxx]
  cases cs with
  | nil => simp [appGo, hd]
  | cons c r =>
    have := h.2.1
    obtain ⟨m, hm⟩ : ∃ m, c.p.toNat - i = m + 1 := ⟨c.p.toNat - i - 1, by omega⟩
    have hm2 : c.p.toNat - (i + 1) = m := by omega
    simp only [appGo]
    rw [hm, hm2, hd]
    simp
theorem appGo_end {ls : List ByteArray} {cs : List Chg} (h : goodC (ls.length + 1) cs) (hb : ∀ c ∈ cs, badC ls c = false) : appGo ls ls.length cs = [] ∧ cs = [] := by
  cases cs with
  | nil => simp [appGo]
  | cons c r =>
    have h1 := h.2.1
    have := hb c (by simp)
    simp [badC] at this
    omega
theorem appGo_step {ls : List ByteArray} {n : Nat} {c : Chg} {r : List Chg} : appGo ls n (c :: r) = (ls.drop n).take (c.p.toNat - n) ++ (if c.k = 1 then [] else [c.t]) ++ appGo ls (if c.k = 1 then c.p.toNat + 1 else c.p.toNat) r := by
  simp only [appGo]; split <;> simp
/-- Lines as a text. -/
def joinL (ls : List ByteArray) : List UInt8 := ls.flatMap fun x => x.data.toList ++ [10]
def joinS (ls : List ByteArray) : ByteArray := mkS (joinL ls)
def joinF (ls : List ByteArray) : ByteArray × Int := if 200 < ls.length then (mkS [], 5) else (joinS ls, 0)
theorem joinL_take {ls : List ByteArray} {k : Nat} {x : ByteArray} (h : ls[k]? = some x) : joinL (ls.take (k + 1)) = joinL (ls.take k) ++ (x.data.toList ++ [10]) := by
  rw [take_snoc_of h]; simp [joinL]
def applyF (a : ByteArray) (cs : List Chg) : ByteArray × Int :=
  if textB a && chgS cs then (if cs.any (badC (linesF a)) then (mkS [], 6) else joinF (appGo (linesF a) 0 cs)) else (mkS [], 1)
/-- The lines that changes insert at a place, and whether they delete the line there. -/
def insF (cs : List Chg) (i : Int) : List ByteArray := cs.filterMap fun c => if c.p = i ∧ c.k ≠ 1 then some c.t else none
def delF (cs : List Chg) (i : Int) : Bool := cs.any fun c => decide (c.p = i ∧ c.k = 1)
theorem insF_take {cs : List Chg} {i : Int} {k : Nat} {c : Chg} (h : cs[k]? = some c) : insF (cs.take (k + 1)) i = insF (cs.take k) i ++ if c.p = i ∧ c.k ≠ 1 then [c.t] else [] := by
  rw [take_snoc_of h]; simp only [insF, List.filterMap_append]; congr 1; simp [List.filterMap_cons]; split <;> simp_all
theorem delF_take {cs : List Chg} {i : Int} {k : Nat} {c : Chg} (h : cs[k]? = some c) : delF (cs.take (k + 1)) i = (delF (cs.take k) i || decide (c.p = i ∧ c.k = 1)) := by
  rw [take_snoc_of h]; simp [delF]
/-- What the merge does at a place; none where the two sides part. -/
def mrgAt (ls : List ByteArray) (A B : List Chg) (i : Nat) : Option (List ByteArray) :=
  if insF A i ≠ [] ∧ insF B i ≠ [] ∧ insF A i ≠ insF B i then none
  else some ((if insF A i = [] then insF B i else insF A i) ++ if delF A i || delF B i then [] else ls[i]?.toList)
def mrgTo (ls : List ByteArray) (A B : List Chg) : Nat → Option (List ByteArray)
  | 0 => some []
  | i + 1 => match mrgTo ls A B i, mrgAt ls A B i with
    | some x, some y => some (x ++ y)
    | _, _ => none
theorem mrgTo_none {ls : List ByteArray} {A B : List Chg} {i : Nat} (h : mrgAt ls A B i = none) : ∀ n, i < n → mrgTo ls A B n = none := by
  intro n hn
  induction n with
  | zero => omega
  | succ n ih =>
    rcases Nat.lt_or_ge i n with h1 | h1
    · simp [mrgTo, ih h1]
    · have : i = n := by omega
      subst this
      simp only [mrgTo, h]
      cases mrgTo ls A B i <;> rfl
def mergeF (s a b : ByteArray) : ByteArray × Int :=
  if textB s && textB a && textB b then
    (match mrgTo (linesF s) (diffF 0 (linesF s) (linesF a)) (diffF 0 (linesF s) (linesF b)) ((linesF s).length + 1) with
    | none => (mkS [], 6)
    | some x => joinF x)
  else (mkS [], 1)
end Go.Proofs.YtjbcanihpcfncaaDoor
