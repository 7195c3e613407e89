/- Plain laws on merging: if one side alone changes, its lines result; merging does not depend on the order. No program is named here. -/
import Derived.Test.YtjbcanihpcfncaaDoorTb
namespace Go.Proofs.YtjbcanihpcfncaaDoor
/-- What changes make of lines, from place i on. -/
def outF (D : List Chg) : Nat → List ByteArray → List ByteArray
  | i, [] => insF D i
  | i, x :: t => insF D i ++ (if delF D i then [] else [x]) ++ outF D (i + 1) t
theorem diffF_from (i : Nat) (xs ys : List ByteArray) : ∀ c ∈ diffF i xs ys, (i : Int) ≤ c.p := by
  fun_induction diffF i xs ys with
  | case1 => simp
  | case2 i x xs ih =>
    intro c hc
    rcases List.mem_cons.1 hc with rfl | hc
    · exact Int.le_refl _
    · have := ih c hc; omega
  | case3 i y ys ih =>
    intro c hc
    rcases List.mem_cons.1 hc with rfl | hc
    · exact Int.le_refl _
    · exact ih c hc
  | case4 i xs x ys ih => intro c hc; have := ih c hc; omega
  | case5 i x xs y ys _ _ ih =>
    intro c hc
    rcases List.mem_cons.1 hc with rfl | hc
    · exact Int.le_refl _
    · have := ih c hc; omega
  | case6 i x xs y ys _ _ ih =>
    intro c hc
    rcases List.mem_cons.1 hc with rfl | hc
    · exact Int.le_refl _
    · exact ih c hc
theorem insF_none {D : List Chg} {i : Int} (h : ∀ c ∈ D, i < c.p) : insF D i = [] := by
  simp only [insF, List.filterMap_eq_nil_iff]
  intro c hc
  rw [if_neg]
  have := h c hc
  omega
theorem delF_none {D : List Chg} {i : Int} (h : ∀ c ∈ D, i < c.p) : delF D i = false := by
  simp only [delF, List.any_eq_false, decide_eq_true_eq]
  intro c hc
  have := h c hc
  omega
theorem outF_skip {D : List Chg} {c : Chg} (t : List ByteArray) : ∀ i : Nat, c.p < i → outF (c :: D) i t = outF D i t := by
  induction t with
  | nil => intro i h; simp [outF, insF, List.filterMap_cons, show ¬ (c.p = (i : Int)) by omega]
  | cons x t ih =>
    intro i h
    have h1 : insF (c :: D) i = insF D i := by simp [insF, List.filterMap_cons, show ¬ (c.p = (i : Int)) by omega]
    have h2 : delF (c :: D) i = delF D i := by simp [delF, show ¬ (c.p = (i : Int)) by omega]
    simp only [outF, h1, h2, ih (i + 1) (by omega)]
theorem outF_ins {D : List Chg} {c : Chg} {i : Nat} (hp : c.p = i) (hk : c.k = 2) (t : List ByteArray) : outF (c :: D) i t = c.t :: outF D i t := by
  have h1 : insF (c :: D) i = c.t :: insF D i := by simp [insF, List.filterMap_cons, hp, hk]
  have h2 : delF (c :: D) i = delF D i := by simp [delF, hk]
  cases t with
  | nil => simp only [outF, h1]
  | cons x t => simp only [outF, h1, h2, outF_skip t (i + 1) (show c.p < ((i + 1 : Nat) : Int) by omega), List.cons_append]
theorem outF_del {D : List Chg} {c : Chg} {i : Nat} (hp : c.p = i) (hk : c.k = 1) (hD : ∀ d ∈ D, (i : Int) < d.p) (x : ByteArray) (t : List ByteArray) : outF (c :: D) i (x :: t) = outF D (i + 1) t := by
  have h1 : insF (c :: D) i = [] := by
    have := insF_none hD
    simp only [insF] at this
    simp [insF, List.filterMap_cons, hk, this]
  have h2 : delF (c :: D) i = true := by simp [delF, hp, hk]
  simp only [outF, h1, h2, outF_skip t (i + 1) (show c.p < ((i + 1 : Nat) : Int) by omega)]
  simp
theorem outF_diff (i : Nat) (xs ys : List ByteArray) : outF (diffF i xs ys) i xs = ys := by
  fun_induction diffF i xs ys with
  | case1 => simp [outF, insF]
  | case2 i x xs ih =>
    rw [outF_del rfl rfl (fun d hd => by have := diffF_from _ _ _ d hd; omega), ih]
  | case3 i y ys ih => rw [outF_ins rfl rfl, ih]
  | case4 i xs x ys ih =>
    have hD : ∀ d ∈ diffF (i + 1) xs ys, (i : Int) < d.p := fun d hd => by have := diffF_from _ _ _ d hd; omega
    simp only [outF, insF_none hD, delF_none hD, ih]
    simp
  | case5 i x xs y ys _ _ ih =>
    rw [outF_del rfl rfl (fun d hd => by have := diffF_from _ _ _ d hd; omega), ih]
  | case6 i x xs y ys _ _ ih => rw [outF_ins rfl rfl, ih]
theorem mrgTo_comm (ls : List ByteArray) (A B : List Chg) (n : Nat) : mrgTo ls A B n = mrgTo ls B A n := by
  induction n with
  | zero => rfl
  | succ n ih =>
    have : mrgAt ls A B n = mrgAt ls B A n := by
      unfold mrgAt
      by_cases hA : insF A n = []
      · by_cases hB : insF B n = []
        · simp [hA, hB, Bool.or_comm]
        · simp [hA, hB, Bool.or_comm]
      · by_cases hB : insF B n = []
        · simp [hA, hB, Bool.or_comm]
        · by_cases he : insF A n = insF B n
          · simp [he, Bool.or_comm]
          · simp [hA, hB, he, Ne.symm he]
    simp only [mrgTo, ih, this]
/-- Merging with a side that says the same, or nothing: the side's own lines. -/
theorem mrgTo_one (ls : List ByteArray) (A B : List Chg) (hB : B = [] ∨ B = A) : ∀ n, n ≤ ls.length → ∃ u, mrgTo ls A B n = some u ∧ u ++ outF A n (ls.drop n) = outF A 0 ls := by
  have hat : ∀ i, mrgAt ls A B i = some (insF A i ++ if delF A i then [] else ls[i]?.toList) := by
    intro i
    rcases hB with rfl | rfl
    · have h1 : insF [] i = [] := rfl
      have h2 : delF [] i = false := rfl
      unfold mrgAt
      rw [h1, h2]
      by_cases hA : insF A i = [] <;> simp [hA]
    · unfold mrgAt; simp
  intro n
  induction n with
  | zero => intro _; exact ⟨[], rfl, by simp⟩
  | succ n ih =>
    intro hn
    obtain ⟨u, hu, he⟩ := ih (by omega)
    have hlt : n < ls.length := by omega
    refine ⟨u ++ (insF A n ++ if delF A n then [] else ls[n]?.toList), by simp only [mrgTo, hu, hat], ?_⟩
    rw [← he, List.drop_eq_getElem_cons hlt, outF, List.getElem?_eq_getElem hlt]
    simp
theorem mrgTo_side (ls ys : List ByteArray) (B : List Chg) (hB : B = [] ∨ B = diffF 0 ls ys) : mrgTo ls (diffF 0 ls ys) B (ls.length + 1) = some ys := by
  obtain ⟨u, hu, he⟩ := mrgTo_one ls (diffF 0 ls ys) B hB ls.length (Nat.le_refl _)
  rw [List.drop_length, outF_diff] at he
  have hat : mrgAt ls (diffF 0 ls ys) B ls.length = some (insF (diffF 0 ls ys) ls.length) := by
    have hl : ls[ls.length]? = none := by simp
    rcases hB with rfl | rfl
    · unfold mrgAt
      have h1 : insF [] (ls.length : Int) = [] := rfl
      rw [h1, hl]
      by_cases hA : insF (diffF 0 ls ys) ls.length = [] <;> simp [hA]
    · unfold mrgAt; rw [hl]; simp
  simp only [mrgTo, hu, hat]
  exact congrArg some he
theorem diffF_self (i : Nat) (xs : List ByteArray) : diffF i xs xs = [] := by
  induction xs generalizing i with
  | nil => simp [diffF]
  | cons x t ih => simp [diffF, ih]
def insN (D : List Chg) (n : Nat) : Nat := (D.filter fun c => decide (c.p < (n : Int))).length
theorem insN_succ (D : List Chg) (n : Nat) : insN D n + (insF D n).length ≤ insN D (n + 1) := by
  induction D with
  | nil => simp [insN, insF]
  | cons c D ih =>
    simp only [insN, insF, List.filter_cons, List.filterMap_cons] at *
    by_cases h1 : c.p < (n : Int)
    · have h2 : c.p < ((n + 1 : Nat) : Int) := by omega
      have h3 : ¬ (c.p = (n : Int) ∧ c.k ≠ 1) := by omega
      simp only [decide_eq_true h1, decide_eq_true h2, if_neg h3, if_true, List.length_cons]; omega
    · by_cases h4 : c.p = (n : Int) ∧ c.k ≠ 1
      · have h2 : c.p < ((n + 1 : Nat) : Int) := by omega
        simp only [decide_eq_false h1, decide_eq_true h2, if_pos h4, if_true, List.length_cons]
        simp only [Bool.false_eq_true, if_false]; omega
      · simp only [decide_eq_false h1, if_neg h4]
        have h5 : ∀ X : List Chg, X.length ≤ (if decide (c.p < ((n + 1 : Nat) : Int)) = true then c :: X else X).length := by intro X; split <;> simp
        have := h5 (D.filter fun c => decide (c.p < ((n + 1 : Nat) : Int)))
        simp only [Bool.false_eq_true, if_false]
        omega
theorem insN_le (D : List Chg) (n : Nat) : insN D n ≤ D.length := List.length_filter_le _ _
theorem mrgTo_len (ls : List ByteArray) (A B : List Chg) : ∀ n u, mrgTo ls A B n = some u → u.length ≤ n + insN A n + insN B n := by
  intro n
  induction n with
  | zero => intro u h; simp [mrgTo] at h; simp [h]
  | succ n ih =>
    intro u h
    simp only [mrgTo] at h
    split at h
    · next x y h1 h2 =>
      have e := Option.some.inj h
      have hx := ih x h1
      have k1 := insN_succ A n
      have k2 := insN_succ B n
      have hy : y.length ≤ (insF A n).length + (insF B n).length + 1 := by
        unfold mrgAt at h2
        split at h2
        · cases h2
        · have e2 := Option.some.inj h2
          rw [← e2, List.length_append]
          have a1 : (if insF A n = [] then insF B n else insF A n).length ≤ (insF A n).length + (insF B n).length := by split <;> omega
          have a2 : (if (delF A n || delF B n) = true then [] else ls[n]?.toList).length ≤ 1 := by
            split
            · simp
            · cases ls[n]? <;> simp
          omega
      rw [← e, List.length_append]
      omega
    · cases h
/-- A line without a newline. -/
def Pln (x : ByteArray) : Prop := ¬ (10 : UInt8) ∈ x.data.toList
theorem partsL_line {p : List UInt8} (hp : ¬ (10 : UInt8) ∈ p) (t : List UInt8) : partsL 10 (p ++ 10 :: t) = p :: partsL 10 t := by
  induction p with
  | nil => simp [partsL]
  | cons b r ih =>
    have hb : b ≠ 10 := fun e => hp (by simp [e])
    have hr : ¬ (10 : UInt8) ∈ r := fun e => hp (by simp [e])
    rw [List.cons_append, partsL, if_neg hb, ih hr]
theorem partsL_join (ls : List ByteArray) (h : ∀ x ∈ ls, Pln x) : partsL 10 (joinL ls) = ls.map (·.data.toList) ++ [[]] := by
  induction ls with
  | nil => simp [joinL, partsL]
  | cons x t ih =>
    have e : joinL (x :: t) = x.data.toList ++ 10 :: joinL t := by simp [joinL]
    rw [e, partsL_line (h x (by simp)), ih fun y hy => h y (by simp [hy])]
    rfl
theorem linesF_join {ls : List ByteArray} (h : ∀ x ∈ ls, Pln x) : linesF (joinS ls) = ls := by
  unfold linesF partsB joinS
  rw [data_mkS, partsL_join ls h]
  simp only [List.map_append, List.map_map, List.map_cons, List.map_nil, List.dropLast_concat]
  have : (mkS ∘ fun x : ByteArray => x.data.toList) = id := by funext x; exact mkS_data x
  rw [this, List.map_id]
theorem textB_join {ls : List ByteArray} (h : ∀ x ∈ ls, Pln x) (hn : ls.length ≤ 200) : textB (joinS ls) = true := by
  have hl : lastF (joinS ls) = [] := by
    unfold lastF joinS
    have e : (partsL 10 (mkS (joinL ls)).data.toList) = ls.map (·.data.toList) ++ [[]] := by rw [data_mkS, partsL_join ls h]
    simp only [e]
    simp
  unfold textB
  rw [linesF_join h]
  simp [hl, hn]
theorem merge_side {L Y : List ByteArray} (hL : ∀ x ∈ L, Pln x) (hY : ∀ x ∈ Y, Pln x) (h1 : L.length ≤ 200) (h2 : Y.length ≤ 200) :
    mergeF (joinS L) (joinS Y) (joinS L) = (joinS Y, 0) ∧ mergeF (joinS L) (joinS L) (joinS Y) = (joinS Y, 0) ∧ mergeF (joinS L) (joinS Y) (joinS Y) = (joinS Y, 0) := by
  have a1 := textB_join hL h1
  have a2 := textB_join hY h2
  have hj : joinF Y = (joinS Y, 0) := by unfold joinF; rw [if_neg (by omega)]
  refine ⟨?_, ?_, ?_⟩
  all_goals unfold mergeF; simp only [a1, a2, linesF_join hL, linesF_join hY, Bool.and_self, if_true, diffF_self]
  · rw [mrgTo_side L Y [] (.inl rfl)]; exact hj
  · rw [mrgTo_comm, mrgTo_side L Y [] (.inl rfl)]; exact hj
  · rw [mrgTo_side L Y _ (.inr rfl)]; exact hj
theorem merge_comm (s a b : ByteArray) : mergeF s a b = mergeF s b a := by
  unfold mergeF
  rw [mrgTo_comm]
  have : (textB s && textB a && textB b) = (textB s && textB b && textB a) := by cases textB s <;> cases textB a <;> cases textB b <;> rfl
  rw [this]
theorem merge_code {L Y Z : List ByteArray} (hL : ∀ x ∈ L, Pln x) (hY : ∀ x ∈ Y, Pln x) (hZ : ∀ x ∈ Z, Pln x) (h : L.length + 1 + (L.length + Y.length) + (L.length + Z.length) ≤ 200) :
    (mergeF (joinS L) (joinS Y) (joinS Z)).2 = 0 ∨ (mergeF (joinS L) (joinS Y) (joinS Z)).2 = 6 := by
  unfold mergeF
  simp only [textB_join hL (by omega), textB_join hY (by omega), textB_join hZ (by omega), linesF_join hL, linesF_join hY, linesF_join hZ, Bool.and_self, if_true]
  cases hm : mrgTo L (diffF 0 L Y) (diffF 0 L Z) (L.length + 1) with
  | none => exact .inr rfl
  | some u =>
    left
    have := mrgTo_len _ _ _ _ _ hm
    have k1 := length_diffF 0 L Y
    have k2 := length_diffF 0 L Z
    have k3 := insN_le (diffF 0 L Y) (L.length + 1)
    have k4 := insN_le (diffF 0 L Z) (L.length + 1)
    show (joinF u).2 = 0
    unfold joinF
    rw [if_neg (by omega)]
end Go.Proofs.YtjbcanihpcfncaaDoor
