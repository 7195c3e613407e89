/- Plain functions on texts: the parts of a text between bytes, its lines, changes. No program is named here. -/
import Derived.Test.YtfifcnojkjjnkaaGreatLb
import Derived.Test.YtfifcnojkjjnkaaGreatPl
namespace Go.Proofs.YtfifcnojkjjnkaaGreat
/-- The parts of a text between the bytes c. -/
def partsL (c : UInt8) : List UInt8 → List (List UInt8)
  | [] => [[]]
  | b :: t => if b = c then [] :: partsL c t else match partsL c t with
    | [] => [b] :: []
    | p :: r => (b :: p) :: r
def glue (p : List UInt8) : List (List UInt8) → List (List UInt8)
  | [] => [p]
  | q :: r => (p ++ q) :: r
theorem partsL_ne (c : UInt8) (l : List UInt8) : partsL c l ≠ [] := by
  cases l with
  | nil => simp [partsL]
  | cons b t => unfold partsL; split; simp; split <;> simp
theorem glue_nil {l : List (List UInt8)} (h : l ≠ []) : glue [] l = l := by cases l <;> simp_all [glue]
theorem glue_hit (c : UInt8) (p t : List UInt8) : glue p (partsL c (c :: t)) = p :: glue [] (partsL c t) := by
  rw [glue_nil (partsL_ne _ _)]
  simp [partsL, glue]
theorem glue_miss {c b : UInt8} (h : b ≠ c) (p t : List UInt8) : glue p (partsL c (b :: t)) = glue (p ++ [b]) (partsL c t) := by
  rw [partsL, if_neg h]
  cases hp : partsL c t with
  | nil => exact absurd hp (partsL_ne _ _)
  | cons q r => simp [glue]
theorem length_partsL (c : UInt8) (l : List UInt8) : (partsL c l).length = l.count c + 1 := by
  induction l with
  | nil => simp [partsL]
  | cons b t ih =>
    unfold partsL
    split
    · next h => subst h; simp [ih]
    · next h =>
      have hn : List.count c (b :: t) = List.count c t := by simp [List.count_cons, h]
      rw [hn, ← ih]
      cases hp : partsL c t with
      | nil => exact absurd hp (partsL_ne _ _)
      | cons q r => simp
/-- The place of the first byte c; the length where there is none. -/
def fstI (c : UInt8) (l : List UInt8) : Nat := l.findIdx (· == c)
theorem partsL_cut (c : UInt8) (l : List UInt8) : partsL c l = if fstI c l < l.length then l.take (fstI c l) :: partsL c (l.drop (fstI c l + 1)) else [l] := by
  unfold fstI
  induction l with
  | nil => simp [partsL]
  | cons b t ih =>
    by_cases h : b = c
    · subst h
      simp [partsL, List.findIdx_cons]
    · have hb : (b == c) = false := by simp [h]
      have hl : partsL c (b :: t) = match partsL c t with | [] => [b] :: [] | p :: r => (b :: p) :: r := by rw [partsL, if_neg h]
      rw [hl, ih, List.findIdx_cons, hb]
      simp only [cond_false, List.length_cons, Nat.add_lt_add_iff_right, List.take_succ_cons, List.drop_succ_cons]
      by_cases hf : List.findIdx (fun x => x == c) t < t.length
      · simp only [if_pos hf]
      · simp only [if_neg hf]
theorem count_fst {c : UInt8} {l : List UInt8} : l.count c = if fstI c l < l.length then (l.drop (fstI c l + 1)).count c + 1 else 0 := by
  have h1 := length_partsL c l
  rw [partsL_cut] at h1
  split at h1
  · next h => rw [if_pos h]; simp [length_partsL] at h1; omega
  · next h => rw [if_neg h]; simp at h1; omega
/-- The lines of a text: what lies in front of each newline. -/
def partsB (c : UInt8) (s : ByteArray) : List ByteArray := (partsL c s.data.toList).map mkS
def linesF (s : ByteArray) : List ByteArray := (partsB 10 s).dropLast
def lastF (s : ByteArray) : List UInt8 := (partsL 10 s.data.toList).getLast (partsL_ne _ _)
theorem length_partsB (c : UInt8) (s : ByteArray) : (partsB c s).length = s.data.toList.count c + 1 := by simp [partsB, length_partsL]
theorem length_linesF (s : ByteArray) : (linesF s).length = s.data.toList.count 10 := by simp [linesF, length_partsB]
/-- Is it a text? -/
def textB (s : ByteArray) : Bool := decide (lastF s = []) && decide ((linesF s).length ≤ 200)
theorem last_suffix (l : List UInt8) : ((partsL 10 l).getLast (partsL_ne _ _) = []) ↔ (l = [] ∨ [10] <:+ l) := by
  induction l with
  | nil => simp [partsL]
  | cons b t ih =>
    have hc : [10] <:+ b :: t ↔ (b = 10 ∧ t = []) ∨ [10] <:+ t := by
      rw [List.suffix_cons_iff]
      constructor
      · rintro (h | h)
        · simp at h; exact .inl ⟨h.1.symm, by first | exact h.2 | exact h.2.symm⟩
        · exact .inr h
      · rintro (⟨rfl, rfl⟩ | h)
        · exact .inl rfl
        · exact .inr h
    simp only [hc, reduceCtorEq, false_or]
    by_cases h : b = 10
    · have : (partsL 10 (b :: t)).getLast (partsL_ne _ _) = (partsL 10 t).getLast (partsL_ne _ _) := by
        simp only [partsL, if_pos h]
        rw [List.getLast_cons (partsL_ne _ _)]
      rw [this, ih]
      simp [h]
    · have hne := partsL_ne 10 t
      by_cases ht : t = []
      · subst ht; simp [partsL, h]
      · have hg : partsL 10 (b :: t) = match partsL 10 t with | [] => [b] :: [] | p :: r => (b :: p) :: r := by rw [partsL, if_neg h]
        cases hp : partsL 10 t with
        | nil => exact absurd hp hne
        | cons p r =>
          have e1 : (partsL 10 (b :: t)).getLast (partsL_ne _ _) = ((b :: p) :: r).getLast (by simp) := by congr 1; rw [hg, hp]
          have e2 : (partsL 10 t).getLast hne = (p :: r).getLast (by simp) := by congr 1
          cases r with
          | nil =>
            rw [e1]
            simp only [List.getLast_singleton, reduceCtorEq, false_iff]
            rintro (⟨h1, _⟩ | h1)
            · exact h h1
            · have hcnt : List.count 10 t = 0 := by have := length_partsL 10 t; rw [hp] at this; simpa using this
              have : (10 : UInt8) ∈ t := by obtain ⟨u, rfl⟩ := h1; simp
              exact absurd this (List.count_eq_zero.1 hcnt)
          | cons q r =>
            rw [e1, List.getLast_cons (by simp)]
            rw [e2, List.getLast_cons (by simp)] at ih
            rw [ih]
            simp [ht, h]

/-- A change: its kind, its place, its line. -/
structure Chg where
  k : Int
  p : Int
  t : ByteArray
deriving DecidableEq
def chgOk (c : Chg) : Bool := inB c.k 1 2 && inB c.p 0 200 && decide (¬ (10 : UInt8) ∈ c.t.data.toList)
def chgNext (a b : Chg) : Bool := decide (a.p < b.p) || (decide (a.p = b.p) && decide (a.k ≠ 1))
def chgAt (cs : List Chg) (i : Nat) : Bool := match cs[i]? with
  | none => false
  | some c => chgOk c && (match i with | 0 => true | j + 1 => match cs[j]? with | none => false | some b => chgNext b c)
def chgTo (cs : List Chg) (k : Nat) : Bool := (List.range k).all (chgAt cs)
def chgS (cs : List Chg) : Bool := decide (cs.length ≤ 400) && chgTo cs cs.length
theorem chgTo_succ {cs : List Chg} {k : Nat} : chgTo cs (k + 1) = (chgTo cs k && chgAt cs k) := by
  simp [chgTo, List.range_succ]
theorem chgTo_true {cs : List Chg} {k : Nat} : chgTo cs k = true ↔ ∀ i < k, chgAt cs i = true := by simp [chgTo]
theorem chgTo_no {cs : List Chg} {k : Nat} (h : chgAt cs k = false) (hk : k < cs.length) : chgTo cs cs.length = false := by
  rw [Bool.eq_false_iff]
  intro hh
  have := chgTo_true.1 hh k hk
  rw [h] at this; cases this

/-- The changes that lead back. -/
def invGo : Int → List Chg → List Chg
  | _, [] => []
  | s, c :: r => if c.k = 1 then ⟨2, c.p + s, c.t⟩ :: invGo (s - 1) r else ⟨1, c.p + s, c.t⟩ :: invGo (s + 1) r
/-- The length of the longest common subsequence. -/
def lcsF : List ByteArray → List ByteArray → Nat
  | [], _ => 0
  | _ :: _, [] => 0
  | x :: xs, y :: ys => if x = y then lcsF xs ys + 1 else max (lcsF xs (y :: ys)) (lcsF (x :: xs) ys)
termination_by xs ys => xs.length + ys.length
/-- The changes from some lines to others. -/
def diffF : Nat → List ByteArray → List ByteArray → List Chg
  | _, [], [] => []
  | i, x :: xs, [] => ⟨1, (i : Int), x⟩ :: diffF (i + 1) xs []
  | i, [], y :: ys => ⟨2, (i : Int), y⟩ :: diffF i [] ys
  | i, x :: xs, y :: ys => if x = y then diffF (i + 1) xs ys
    else if lcsF (x :: xs) ys ≤ lcsF xs (y :: ys) then ⟨1, (i : Int), x⟩ :: diffF (i + 1) xs (y :: ys)
    else ⟨2, (i : Int), y⟩ :: diffF i (x :: xs) ys
termination_by _ xs ys => xs.length + ys.length
theorem lcsF_le (xs ys : List ByteArray) : lcsF xs ys ≤ xs.length := by
  fun_induction lcsF xs ys with
  | case1 => simp
  | case2 => simp
  | case3 x xs ys ih => simp; omega
  | case4 x xs y ys _ ih1 ih2 => simp at *; omega
theorem length_diffF (i : Nat) (xs ys : List ByteArray) : (diffF i xs ys).length ≤ xs.length + ys.length := by
  fun_induction diffF i xs ys <;> simp_all <;> omega
end Go.Proofs.YtfifcnojkjjnkaaGreat
