/- Plain laws: lists of changes are read back from their text. No program is named here. -/
import Derived.Test.YtjbcanihpcfncaaDoorTd
import Derived.Test.YtjbcanihpcfncaaDoorTc
namespace Go.Proofs.YtjbcanihpcfncaaDoor
open Go.Lib
def sgnC (c : Chg) : UInt8 := if c.k = 2 then 43 else 45
/-- The text of a change. -/
def txtC (c : Chg) : List UInt8 := [sgnC c] ++ decL c.p ++ [32] ++ c.t.data.toList ++ [10]
def txtCs (cs : List Chg) : List UInt8 := cs.flatMap txtC
theorem txtCs_take {cs : List Chg} {k : Nat} {c : Chg} (h : cs[k]? = some c) : txtCs (cs.take (k + 1)) = txtCs (cs.take k) ++ txtC c := by
  rw [take_snoc_of h]; simp [txtCs]
/-- The line of a change, without its newline. -/
def linC (c : Chg) : List UInt8 := [sgnC c] ++ decL c.p ++ [32] ++ c.t.data.toList
theorem txtC_lin (c : Chg) : txtC c = linC c ++ [10] := rfl
def hdL (l : List UInt8) : List UInt8 := l.take (fstI 32 l)
def rsL (l : List UInt8) : List UInt8 := l.drop (fstI 32 l + 1)
/-- The number's text and the kind, out of a line's first word. -/
def signN (h : List UInt8) : List UInt8 × Int := match h with
  | [] => ([], 1)
  | b :: t => if b = 43 then (t, 2) else if b = 45 then (t, 1) else (b :: t, 1)
/-- A line read, which is checked later. -/
def pI (l : List UInt8) : Chg := ⟨(signN (hdL l)).2, (numF (signN (hdL l)).1).getD 0, mkS (rsL l)⟩
def pOk (l : List UInt8) : Bool := (numF (signN (hdL l)).1).isSome
theorem fst_line {p : List UInt8} (hp : ¬ (32 : UInt8) ∈ p) (t : List UInt8) : fstI 32 (p ++ 32 :: t) = p.length := by
  unfold fstI
  induction p with
  | nil => simp [List.findIdx_cons]
  | cons b r ih =>
    have hb : (b == 32) = false := by simp; intro e; exact hp (by simp [e])
    rw [List.cons_append, List.findIdx_cons, hb, cond_false, ih (fun e => hp (by simp [e]))]; rfl
theorem dec_no {n : Int} {b : UInt8} (hb : b = 32 ∨ b = 10) : ¬ b ∈ decL n := by
  intro h
  rcases decL_plain n b h with e | e
  · rcases hb with rfl | rfl <;> cases e
  · rcases hb with rfl | rfl <;> simp [digB] at e
theorem sgnC_ne (c : Chg) : sgnC c ≠ 32 ∧ sgnC c ≠ 10 := by unfold sgnC; split <;> decide
theorem hd_lin (c : Chg) : hdL (linC c) = sgnC c :: decL c.p ∧ rsL (linC c) = c.t.data.toList := by
  have e : linC c = (sgnC c :: decL c.p) ++ 32 :: c.t.data.toList := by simp [linC]
  have hn : ¬ (32 : UInt8) ∈ (sgnC c :: decL c.p) := by
    intro h
    rcases List.mem_cons.1 h with h | h
    · exact (sgnC_ne c).1 h.symm
    · exact dec_no (.inl rfl) h
  unfold hdL rsL
  rw [e, fst_line hn]
  constructor
  · rw [List.take_left]
  · rw [← List.drop_drop, List.drop_left]; rfl
theorem num_dec {n : Int} (h0 : 0 ≤ n) (h1 : n ≤ 99999) : numF (decL n) = some n ∧ (decL n).length ≤ 5 ∧ ∀ b ∈ decL n, digB b = true := by
  have hb := bareL_dec n
  have hd := dec_digits n.natAbs
  have he : decL n = decDigits n.natAbs := by
    unfold decL itoa
    rw [if_neg (by omega)]
    congr 1; omega
  have hl : (decDigits n.natAbs).length ≤ 5 := by
    have := preD_len 5 n.natAbs (by omega)
    unfold preD at this
    split at this
    · next h => rw [h, decDigits_small (by omega)]; simp
    · exact this
  refine ⟨numF_iff.2 ⟨rfl, by rw [hb]; omega⟩, by rw [he]; exact hl, by rw [he]; exact hd.1⟩
theorem pI_lin {c : Chg} (hk : c.k = 1 ∨ c.k = 2) (h0 : 0 ≤ c.p) (h1 : c.p ≤ 200) : pI (linC c) = c ∧ pOk (linC c) = true := by
  obtain ⟨e1, e2⟩ := hd_lin c
  have hn := (num_dec h0 (by omega)).1
  have hs : signN (sgnC c :: decL c.p) = (decL c.p, c.k) := by
    unfold signN sgnC
    rcases hk with hk | hk <;> simp [hk]
  unfold pI pOk
  rw [e1, e2, hs, hn, mkS_data]
  obtain ⟨k, p, t⟩ := c
  exact ⟨rfl, rfl⟩
/-- What the program reads. -/
def rcI (s : ByteArray) : Option (List Chg) :=
  if (linesF s).all (fun l => pOk l.data.toList) = true ∧ chgS ((linesF s).map fun l => pI l.data.toList) = true ∧ mkS (txtCs ((linesF s).map fun l => pI l.data.toList)) = s
  then some ((linesF s).map fun l => pI l.data.toList) else none
theorem chgS_all {cs : List Chg} (h : chgS cs = true) : ∀ c ∈ cs, (c.k = 1 ∨ c.k = 2) ∧ 0 ≤ c.p ∧ c.p ≤ 200 ∧ ¬ (10 : UInt8) ∈ c.t.data.toList := by
  intro c hc
  obtain ⟨k, hk, rfl⟩ := List.getElem_of_mem hc
  simp only [chgS, Bool.and_eq_true, decide_eq_true_eq] at h
  have hat := chgTo_true.1 h.2 k hk
  unfold chgAt at hat
  rw [List.getElem?_eq_getElem hk] at hat
  simp only [Bool.and_eq_true, chgOk, inB_true, decide_eq_true_eq] at hat
  obtain ⟨⟨⟨h1, h2⟩, h3⟩, _⟩ := hat
  exact ⟨by omega, h2.1, h2.2, h3⟩
theorem lin_plain {c : Chg} (h : ¬ (10 : UInt8) ∈ c.t.data.toList) : Pln (mkS (linC c)) := by
  unfold Pln
  rw [data_mkS]
  unfold linC
  simp only [List.mem_append, List.mem_singleton, not_or]
  exact ⟨⟨⟨fun e => (sgnC_ne c).2 e.symm, dec_no (.inr rfl)⟩, by decide⟩, h⟩
theorem txt_join' (cs : List Chg) : txtCs cs = joinL (cs.map fun c => mkS (linC c)) := by
  unfold txtCs joinL
  rw [List.flatMap_map]
  congr 1
theorem lines_txt {cs : List Chg} (h : chgS cs = true) : linesF (mkS (txtCs cs)) = cs.map fun c => mkS (linC c) := by
  rw [txt_join']
  refine linesF_join fun x hx => ?_
  obtain ⟨c, hc, rfl⟩ := List.mem_map.1 hx
  exact lin_plain (chgS_all h c hc).2.2.2
theorem rcI_iff {s : ByteArray} {cs : List Chg} : rcI s = some cs ↔ chgS cs = true ∧ mkS (txtCs cs) = s := by
  constructor
  · intro h
    unfold rcI at h
    split at h
    · next hh => obtain rfl := Option.some.inj h; exact hh.2
    · cases h
  · rintro ⟨h1, rfl⟩
    have hg := chgS_all h1
    have hm : ((linesF (mkS (txtCs cs))).map fun l => pI l.data.toList) = cs := by
      rw [lines_txt h1, List.map_map]
      conv => rhs; rw [← List.map_id cs]
      refine List.map_congr_left fun c hc => ?_
      have := hg c hc
      show pI (mkS (linC c)).data.toList = c
      rw [data_mkS]; exact (pI_lin this.1 this.2.1 this.2.2.1).1
    have ha : (linesF (mkS (txtCs cs))).all (fun l => pOk l.data.toList) = true := by
      rw [lines_txt h1, List.all_eq_true]
      intro x hx
      obtain ⟨c, hc, rfl⟩ := List.mem_map.1 hx
      have := hg c hc
      rw [data_mkS]; exact (pI_lin this.1 this.2.1 this.2.2.1).2
    unfold rcI
    rw [hm, if_pos ⟨ha, h1, rfl⟩]
/-- How many digits, at most m. -/
def digN : Nat → List UInt8 → Nat
  | 0, _ => 0
  | _, [] => 0
  | m + 1, b :: t => if digB b = true then digN m t + 1 else 0
theorem digN_le (m : Nat) : ∀ l, digN m l ≤ m ∧ digN m l ≤ l.length := by
  induction m with
  | zero => intro l; simp [digN]
  | succ m ih =>
    intro l
    cases l with
    | nil => simp [digN]
    | cons b t =>
      have := ih t
      simp only [digN, List.length_cons]
      split <;> omega
theorem digN_dig (m : Nat) : ∀ (l : List UInt8), ∀ b ∈ l.take (digN m l), digB b = true := by
  induction m with
  | zero => intro l b hb; simp [digN] at hb
  | succ m ih =>
    intro l b hb
    cases l with
    | nil => simp at hb
    | cons a t =>
      simp only [digN] at hb
      split at hb
      · next h =>
        rw [List.take_succ_cons] at hb
        rcases List.mem_cons.1 hb with rfl | hb
        · exact h
        · exact ih t b hb
      · simp at hb
theorem digN_app {m : Nat} : ∀ {p t : List UInt8} {b : UInt8}, (∀ x ∈ p, digB x = true) → p.length ≤ m → digB b = false → digN m (p ++ b :: t) = p.length := by
  induction m with
  | zero => intro p t b _ hl _; have : p = [] := List.eq_nil_of_length_eq_zero (by omega); subst this; simp [digN]
  | succ m ih =>
    intro p t b hp hl hb
    cases p with
    | nil => simp [digN, hb]
    | cons x r =>
      rw [List.cons_append, digN, if_pos (hp x (by simp)), ih (fun y hy => hp y (by simp [hy])) (by simpa using hl) hb]
      rfl
/-- Where the number of a line ends, by the reference. -/
def atS (l : List UInt8) : Nat := 1 + digN 5 (l.drop 1)
/-- A line read by the reference. -/
def cS (l : List UInt8) : Chg := ⟨if l.head? = some 43 then 2 else 1, (numF ((l.drop 1).take (atS l - 1))).getD 0, mkS (l.drop (atS l + 1))⟩
def okS (l : List UInt8) : Bool := decide (atS l < l.length) && (numF ((l.drop 1).take (atS l - 1))).isSome && decide (txtC (cS l) = l ++ [10])
theorem cS_lin {c : Chg} (hk : c.k = 1 ∨ c.k = 2) (h0 : 0 ≤ c.p) (h1 : c.p ≤ 200) : cS (linC c) = c ∧ okS (linC c) = true := by
  obtain ⟨hn, hl, hd⟩ := num_dec h0 (show c.p ≤ 99999 by omega)
  have e : linC c = sgnC c :: (decL c.p ++ 32 :: c.t.data.toList) := by simp [linC]
  have hat : atS (linC c) = 1 + (decL c.p).length := by
    unfold atS
    rw [e, List.drop_one, List.tail_cons, digN_app hd hl (by decide)]
  have hnum : ((linC c).drop 1).take (atS (linC c) - 1) = decL c.p := by
    rw [hat, e, List.drop_one, List.tail_cons, Nat.add_sub_cancel_left, List.take_left]
  have hrest : (linC c).drop (atS (linC c) + 1) = c.t.data.toList := by
    have hx : linC c = (sgnC c :: decL c.p) ++ 32 :: c.t.data.toList := by simp [linC]
    have hy : atS (linC c) + 1 = (sgnC c :: decL c.p).length + 1 := by rw [hat]; simp; omega
    rw [hy, hx, ← List.drop_drop, List.drop_left]; rfl
  have hc : cS (linC c) = c := by
    unfold cS
    rw [hnum, hn, hrest, mkS_data]
    have hh : (linC c).head? = some (sgnC c) := by rw [e]; rfl
    rw [hh]
    obtain ⟨k, p, t⟩ := c
    unfold sgnC
    rcases hk with hk | hk <;> simp at hk <;> simp [hk]
  refine ⟨hc, ?_⟩
  unfold okS
  rw [hc, hnum, hn, hat]
  simp only [Option.isSome_some, Bool.and_true, Bool.and_eq_true, decide_eq_true_eq]
  refine ⟨?_, rfl⟩
  rw [e]; simp; omega
theorem flatMap_same {α β : Type} {l : List α} {f g : α → List β} (h : ∀ x ∈ l, f x = g x) : l.flatMap f = l.flatMap g := by
  induction l with
  | nil => rfl
  | cons x t ih => rw [List.flatMap_cons, List.flatMap_cons, h x (by simp), ih fun y hy => h y (by simp [hy])]
/-- What the reference reads. -/
def rcS (s : ByteArray) : Option (List Chg) :=
  if lastF s = [] ∧ (linesF s).length ≤ 400 ∧ (linesF s).all (fun l => okS l.data.toList) = true ∧ chgS ((linesF s).map fun l => cS l.data.toList) = true
  then some ((linesF s).map fun l => cS l.data.toList) else none
theorem parts_join (l : List UInt8) : (((partsL 10 l).dropLast).flatMap fun p => p ++ [10]) ++ (partsL 10 l).getLast (partsL_ne _ _) = l := by
  induction l with
  | nil => simp [partsL]
  | cons b t ih =>
    by_cases hb : b = 10
    · subst hb
      have hne := partsL_ne 10 t
      have e : partsL 10 (10 :: t) = [] :: partsL 10 t := by simp [partsL]
      have e1 : (partsL 10 (10 :: t)).getLast (partsL_ne _ _) = (partsL 10 t).getLast hne := by
        simp only [e]; exact List.getLast_cons hne
      rw [e1, e, List.dropLast_cons_of_ne_nil hne, List.flatMap_cons]
      simp only [List.nil_append, List.cons_append, List.append_assoc]
      congr 1
    · have hne := partsL_ne 10 t
      cases hp : partsL 10 t with
      | nil => exact absurd hp hne
      | cons q r =>
        have e : partsL 10 (b :: t) = (b :: q) :: r := by rw [partsL, if_neg hb, hp]
        have e1 : (partsL 10 (b :: t)).getLast (partsL_ne _ _) = ((b :: q) :: r).getLast (by simp) := by congr 1
        have e2 : (partsL 10 t).getLast hne = (q :: r).getLast (by simp) := by congr 1
        rw [e1, e]
        rw [e2, hp] at ih
        cases r with
        | nil => simp at ih ⊢; exact ih
        | cons q2 r2 =>
          rw [List.dropLast_cons_of_ne_nil (by simp), List.getLast_cons (by simp)] at ih ⊢
          rw [List.flatMap_cons] at ih ⊢
          simp only [List.cons_append, List.append_assoc] at ih ⊢
          rw [ih]
theorem rcS_iff {s : ByteArray} {cs : List Chg} : rcS s = some cs ↔ chgS cs = true ∧ mkS (txtCs cs) = s := by
  constructor
  · intro h
    unfold rcS at h
    split at h
    · next hh =>
      obtain ⟨h1, _, h3, h4⟩ := hh
      obtain rfl := Option.some.inj h
      refine ⟨h4, ?_⟩
      have hj := parts_join s.data.toList
      unfold lastF at h1
      rw [h1, List.append_nil] at hj
      have : txtCs ((linesF s).map fun l => cS l.data.toList) = ((partsL 10 s.data.toList).dropLast).flatMap fun p => p ++ [10] := by
        unfold txtCs
        rw [List.flatMap_map]
        have hls : linesF s = ((partsL 10 s.data.toList).dropLast).map mkS := by unfold linesF partsB; rw [List.map_dropLast]
        rw [hls] at h3 ⊢
        rw [List.flatMap_map]
        refine flatMap_same fun p hp => ?_
        have hok := List.all_eq_true.1 h3 (mkS p) (List.mem_map.2 ⟨p, hp, rfl⟩)
        unfold okS at hok
        simp only [Bool.and_eq_true, decide_eq_true_eq] at hok
        exact hok.2
      rw [this, hj, mkS_data]
    · cases h
  · rintro ⟨h1, rfl⟩
    have hg := chgS_all h1
    have hm : ((linesF (mkS (txtCs cs))).map fun l => cS l.data.toList) = cs := by
      rw [lines_txt h1, List.map_map]
      conv => rhs; rw [← List.map_id cs]
      refine List.map_congr_left fun c hc => ?_
      have := hg c hc
      show cS (mkS (linC c)).data.toList = c
      rw [data_mkS]; exact (cS_lin this.1 this.2.1 this.2.2.1).1
    have ha : (linesF (mkS (txtCs cs))).all (fun l => okS l.data.toList) = true := by
      rw [lines_txt h1, List.all_eq_true]
      intro x hx
      obtain ⟨c, hc, rfl⟩ := List.mem_map.1 hx
      have := hg c hc
      rw [data_mkS]; exact (cS_lin this.1 this.2.1 this.2.2.1).2
    have hlast : lastF (mkS (txtCs cs)) = [] := by
      have hp : ∀ x ∈ (cs.map fun c => mkS (linC c)), Pln x := by
        intro x hx
        obtain ⟨c, hc, rfl⟩ := List.mem_map.1 hx
        exact lin_plain (hg c hc).2.2.2
      unfold lastF
      have e : (partsL 10 (mkS (txtCs cs)).data.toList) = (cs.map fun c => mkS (linC c)).map (·.data.toList) ++ [[]] := by rw [data_mkS, txt_join', partsL_join _ hp]
      simp only [e]
      simp
    have hlen : (linesF (mkS (txtCs cs))).length ≤ 400 := by
      rw [lines_txt h1, List.length_map]
      simp only [chgS, Bool.and_eq_true, decide_eq_true_eq] at h1
      exact h1.1
    unfold rcS
    rw [hm, if_pos ⟨hlast, hlen, ha, h1⟩]
theorem rc_eq (s : ByteArray) : rcI s = rcS s := by
  cases h : rcS s with
  | some cs => exact rcI_iff.2 (rcS_iff.1 h)
  | none =>
    cases h2 : rcI s with
    | none => rfl
    | some cs => rw [rcS_iff.2 (rcI_iff.1 h2)] at h; cases h
end Go.Proofs.YtjbcanihpcfncaaDoor
