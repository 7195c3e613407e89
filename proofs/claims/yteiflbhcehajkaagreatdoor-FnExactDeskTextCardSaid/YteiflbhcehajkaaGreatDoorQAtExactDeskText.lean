/- Regions that draw their order and end in some operations, each behind all others, that store over cells which the region has loaded. No program is named here. -/
import Derived.Test.YteiflbhcehajkaaGreatDoorQAqExactDeskText
import Derived.Deep.RegionHeldLaw
import Derived.Deep.Quiet
import Derived.StillTail
set_option linter.unusedVariables false
set_option linter.unusedSimpArgs false
namespace Go.Proofs.YteiflbhcehajkaaGreatDoor
open Go.RowKit
section
variable {P : Program} {ops : Array Oper} {Q : Exit → Act → World → Prop} {md : Region.Mode} {S : World → Prop} {n : List Nat}
/-- Whatever order is picked from here on; behind every operation but number n, which waits for all others, S holds. -/
def wpAnyN (P : Program) (md : Region.Mode) (ops : Array Oper) (Q : Exit → Act → World → Prop) (S : World → Prop) (n : List Nat) : Nat → Array Bool → Act → World → Prop
  | 0, listed, a, w => Region.ready md ops listed = [] ∧ Q .normal a w
  | fuel + 1, listed, a, w =>
    (Region.ready md ops listed = [] → Q .normal a w) ∧
    ∀ i ∈ Region.ready md ops listed, wpOp P ops Q i (fun a' w' => (i ∈ n ∨ S w') ∧ wpAnyN P md ops Q S n fuel (listed.setIfInBounds i true) a' w') a w
theorem wpAny_of_N : ∀ (fuel : Nat) (listed : Array Bool) (a : Act) (w : World), wpAnyN P md ops Q S n fuel listed a w → wpAny P md ops Q fuel listed a w
  | 0, _, _, _, h => h
  | fuel + 1, _, _, _, h => ⟨h.1, fun i hi => wpOp_mono (fun a' w' h' => wpAny_of_N fuel _ a' w' h'.2) (h.2 i hi)⟩
/-- What is listed has all that it waits for listed. -/
def closedB (md : Region.Mode) (ops : Array Oper) (listed : Array Bool) : Bool := (List.range ops.size).all fun j => !(listed.getD j true) || ((ops[j]?).map fun o => o.after.all fun e => !(Region.binds md e) || listed.getD e.on true).getD true
def Closed (md : Region.Mode) (ops : Array Oper) (listed : Array Bool) : Prop := ∀ (j : Nat) (o : Oper), ops[j]? = some o → listed.getD j true = true → ∀ e ∈ o.after, Region.binds md e = true → listed.getD e.on true = true
theorem closed_of {listed : Array Bool} (h : closedB md ops listed = true) : Closed md ops listed := by
  intro j o ho hl e he hb
  unfold closedB at h
  have hj : j < ops.size := (Array.getElem?_eq_some_iff.1 ho).1
  have h1 := List.all_eq_true.1 h j (List.mem_range.2 hj)
  rw [hl, ho] at h1
  simp only [Bool.not_true, Bool.false_or, Option.map_some, Option.getD_some] at h1
  have h2 := (Array.all_eq_true'.1 h1) e he
  rw [hb] at h2
  simpa using h2
/-- Number m waits for number i, perhaps through others. -/
def waitsT (md : Region.Mode) (ops : Array Oper) : Nat → Nat → Nat → Bool
  | 0, _, _ => false
  | f + 1, m, i => ((ops[m]?).map fun o => o.after.any fun e => Region.binds md e && (e.on == i || waitsT md ops f e.on i)).getD false
theorem waitsT_spec {f m i : Nat} (h : waitsT md ops (f + 1) m i = true) : ∃ o, ops[m]? = some o ∧ ∃ e ∈ o.after, Region.binds md e = true ∧ (e.on = i ∨ waitsT md ops f e.on i = true) := by
  unfold waitsT at h
  cases ho : ops[m]? with
  | none => rw [ho] at h; simp at h
  | some o =>
    rw [ho] at h
    simp only [Option.map_some, Option.getD_some] at h
    obtain ⟨e, he, h2⟩ := Array.any_eq_true'.1 h
    simp only [Bool.and_eq_true, Bool.or_eq_true, beq_iff_eq] at h2
    exact ⟨o, rfl, e, he, h2.1, h2.2⟩
theorem waitsT_mono : ∀ (f m i : Nat), waitsT md ops f m i = true → waitsT md ops (f + 1) m i = true
  | 0, _, _, h => by simp [waitsT] at h
  | f + 1, m, i, h => by
    obtain ⟨o, ho, e, he, hb, h2⟩ := waitsT_spec h
    unfold waitsT
    rw [ho]
    simp only [Option.map_some, Option.getD_some]
    refine Array.any_eq_true'.2 ⟨e, he, ?_⟩
    simp only [Bool.and_eq_true, Bool.or_eq_true, beq_iff_eq]
    exact ⟨hb, h2.imp id (fun h3 => waitsT_mono f _ _ h3)⟩
/-- Which of the first k operations wait for number i: reckoned one after the other. -/
def reachL (md : Region.Mode) (ops : Array Oper) (i : Nat) : Nat → List Bool
  | 0 => []
  | k + 1 => reachL md ops i k ++ [((ops[k]?).map fun o => o.after.any fun e => Region.binds md e && (e.on == i || (reachL md ops i k).getD e.on false)).getD false]
theorem length_reachL {i : Nat} : ∀ k, (reachL md ops i k).length = k
  | 0 => rfl
  | k + 1 => by simp [reachL, length_reachL k]
theorem reachL_spec {i : Nat} : ∀ (k j : Nat), (reachL md ops i k).getD j false = true → waitsT md ops k j i = true
  | 0, j, h => by simp [reachL] at h
  | k + 1, j, h => by
    unfold reachL at h
    rw [List.getD_eq_getElem?_getD] at h
    by_cases hj : j < k
    · rw [List.getElem?_append_left (by rw [length_reachL]; exact hj), ← List.getD_eq_getElem?_getD] at h
      exact waitsT_mono _ _ _ (reachL_spec k j h)
    · by_cases e : j = k
      · subst e
        rw [List.getElem?_append_right (by rw [length_reachL]; exact Nat.le_refl _), length_reachL, Nat.sub_self] at h
        unfold waitsT
        cases ho : ops[j]? with
        | none => rw [ho] at h; simp at h
        | some o =>
          rw [ho] at h
          simp only [Option.map_some, Option.getD_some, List.getElem?_cons_zero] at h ⊢
          obtain ⟨e, he, h2⟩ := Array.any_eq_true'.1 h
          refine Array.any_eq_true'.2 ⟨e, he, ?_⟩
          simp only [Bool.and_eq_true, Bool.or_eq_true, beq_iff_eq] at h2 ⊢
          exact ⟨h2.1, h2.2.imp id (fun h3 => reachL_spec j _ h3)⟩
      · rw [List.getElem?_eq_none (by rw [List.length_append, length_reachL]; simp; omega)] at h
        cases h
theorem waitsT_listed {listed : Array Bool} (hc : Closed md ops listed) : ∀ (f j i : Nat), listed.getD j true = true → waitsT md ops f j i = true → listed.getD i true = true
  | 0, _, _, _, h => by simp [waitsT] at h
  | f + 1, j, i, hl, h => by
    obtain ⟨o, ho, e, he, hb, h2⟩ := waitsT_spec h
    have h3 := hc j o ho hl e he hb
    rcases h2 with rfl | h2
    · exact h3
    · exact waitsT_listed hc f e.on i h3 h2
theorem waitsT_ready {listed : Array Bool} (hc : Closed md ops listed) {f j i : Nat} (hr : j ∈ Region.ready md ops listed) (h : waitsT md ops f j i = true) : listed.getD i true = true := by
  cases f with
  | zero => simp [waitsT] at h
  | succ f =>
    obtain ⟨o, ho, e, he, hb, h2⟩ := waitsT_spec h
    obtain ⟨_, o', ho', hall⟩ := mem_ready.1 hr
    obtain rfl : o = o' := Option.some.inj (ho.symm.trans ho')
    have h1 := hall e he hb
    have h3 : listed.getD e.on true = true := by
      cases hg : listed.getD e.on true with
      | true => rfl
      | false => rw [getD_both hg] at h1; cases h1
    rcases h2 with rfl | h2
    · exact h3
    · exact waitsT_listed hc f e.on i h3 h2
theorem Closed.set_ {listed : Array Bool} (hc : Closed md ops listed) {j : Nat} (hr : j ∈ Region.ready md ops listed) : Closed md ops (listed.setIfInBounds j true) := by
  have up : ∀ k, listed.getD k true = true → (listed.setIfInBounds j true).getD k true = true := fun k hk => by
    by_cases e : j = k
    · subst e
      cases hq : (listed.setIfInBounds j true).getD j true with
      | true => rfl
      | false =>
        have hlt : j < listed.size := Nat.lt_of_not_le fun hn => by
          rw [Array.getD_eq_getD_getElem?, Array.getElem?_eq_none (by simpa using hn)] at hq
          cases hq
        rw [Array.getD_eq_getD_getElem?, Array.getElem?_setIfInBounds_self_of_lt hlt] at hq
        cases hq
    · rw [getD_set_ne true e]; exact hk
  intro k o ho hl e he hb
  by_cases hk : j = k
  · subst hk
    obtain ⟨_, o', ho', hall⟩ := mem_ready.1 hr
    obtain rfl : o = o' := Option.some.inj (ho.symm.trans ho')
    have h1 := hall e he hb
    refine up _ ?_
    cases hg : listed.getD e.on true with
    | true => rfl
    | false => rw [getD_both hg] at h1; cases h1
  · rw [getD_set_ne true hk] at hl
    exact up _ (hc k o ho hl e he hb)
theorem wpAnyN_first {i : Nat} {oi : Oper} {v : Value} (f : Nat) (hn : (n.all fun m => waitsT md ops f m i) = true) (hi : ops[i]? = some oi) (hsel : ∀ (j : Nat) (o : Oper) cs b, ops[j]? = some o → o.op ≠ .select cs b)
    (hQ : ∀ c a w, Q (.panic c) (a.put oi.dst v) w → Q (.panic c) a w) :
    ∀ (fuel : Nat) (listed : Array Bool) (a : Act) (w : World),
      (∀ j oj, ops[j]? = some oj → j ≠ i → listed.getD j true = false → (∀ e ∈ oj.after, Region.binds md e = true → e.on ≠ i) → oi.apart ops oj = true) →
      Closed md ops listed → i ∈ Region.ready md ops listed → YieldsIf P ops S oi v a → S w →
      wpAnyN P md ops Q S n fuel (listed.setIfInBounds i true) (a.put oi.dst v) w → wpAnyN P md ops Q S n (fuel + 1) listed a w := by
  have late : ∀ {listed : Array Bool} {j : Nat}, Closed md ops listed → i ∈ Region.ready md ops listed → j ∈ Region.ready md ops listed → j ∉ n := by
    intro listed j hc hr hj e
    have h1 := waitsT_ready hc hj (List.all_eq_true.1 hn j e)
    rw [(mem_ready.1 hr).1] at h1
    cases h1
  intro fuel
  induction fuel with
  | zero =>
    intro listed a w _ hc hr hy hS H
    refine ⟨fun h => (by rw [h] at hr; cases hr), fun j hj => ?_⟩
    by_cases hji : j = i
    · subst hji; exact hy.wpOp hi hS ⟨.inr hS, H⟩
    · have := ready_mono hj hji
      rw [H.1] at this
      cases this
  | succ fuel ih =>
    intro listed a w hfree hc hr hy hS H
    refine ⟨fun h => (by rw [h] at hr; cases hr), fun j hj => ?_⟩
    by_cases hji : j = i
    · subst hji; exact hy.wpOp hi hS ⟨.inr hS, H⟩
    · have h1 := H.2 j (ready_mono hj hji)
      obtain ⟨hjun, oj, hoj, hall⟩ := mem_ready.1 hj
      have hun := (mem_ready.1 hr).1
      have hnot : ∀ e ∈ oj.after, Region.binds md e = true → e.on ≠ i := fun e he hb heq => by
        have h1 := hall e he hb
        rw [heq, getD_both hun] at h1
        cases h1
      have h2 := wpOp_putIf hoj (hfree j oj hoj hji hjun hnot) (fun cs b => hsel i oi cs b hi) (fun cs b => hsel j oj cs b hoj) hQ hy h1
      have hfree' : ∀ k ok, ops[k]? = some ok → k ≠ i → (listed.setIfInBounds j true).getD k true = false →
          (∀ e ∈ ok.after, Region.binds md e = true → e.on ≠ i) → oi.apart ops ok = true := fun k ok hk hki hun hno => by
        refine hfree k ok hk hki ?_ hno
        by_cases hjk : j = k
        · subst hjk; exact hjun
        · rw [getD_set_ne true hjk] at hun; exact hun
      have hjn := late hc hr hj
      refine wpOp_mono (fun a' w' h3 => ?_) h2
      have hS' : S w' := h3.2.1.resolve_left hjn
      refine ⟨.inr hS', ih (listed.setIfInBounds j true) a' w' hfree' (hc.set_ hj) (ready_mono hr (Ne.symm hji)) h3.1 hS' ?_⟩
      rw [Array.setIfInBounds_comm _ _ hji]
      exact h3.2.2
theorem wpAnyN_firstT {i : Nat} {oi : Oper} {v : Value} (hn : i ∈ n) (hi : ops[i]? = some oi) (hsel : ∀ (j : Nat) (o : Oper) cs b, ops[j]? = some o → o.op ≠ .select cs b)
    (hQ : ∀ c a w, Q (.panic c) (a.put oi.dst v) w → Q (.panic c) a w) :
    ∀ (fuel : Nat) (listed : Array Bool) (a : Act) (w : World),
      (∀ j oj, ops[j]? = some oj → j ≠ i → listed.getD j true = false → (∀ e ∈ oj.after, Region.binds md e = true → e.on ≠ i) → oi.apart ops oj = true) →
      i ∈ Region.ready md ops listed → YieldsIf P ops (fun _ => True) oi v a →
      wpAnyN P md ops Q S n fuel (listed.setIfInBounds i true) (a.put oi.dst v) w → wpAnyN P md ops Q S n (fuel + 1) listed a w := by
  intro fuel
  induction fuel with
  | zero =>
    intro listed a w _ hr hy H
    refine ⟨fun h => (by rw [h] at hr; cases hr), fun j hj => ?_⟩
    by_cases hji : j = i
    · subst hji; exact hy.wpOp hi trivial ⟨.inl hn, H⟩
    · have := ready_mono hj hji
      rw [H.1] at this
      cases this
  | succ fuel ih =>
    intro listed a w hfree hr hy H
    refine ⟨fun h => (by rw [h] at hr; cases hr), fun j hj => ?_⟩
    by_cases hji : j = i
    · subst hji; exact hy.wpOp hi trivial ⟨.inl hn, H⟩
    · have h1 := H.2 j (ready_mono hj hji)
      obtain ⟨hjun, oj, hoj, hall⟩ := mem_ready.1 hj
      have hun := (mem_ready.1 hr).1
      have hnot : ∀ e ∈ oj.after, Region.binds md e = true → e.on ≠ i := fun e he hb heq => by
        have h1 := hall e he hb
        rw [heq, getD_both hun] at h1
        cases h1
      have h2 := wpOp_putIf hoj (hfree j oj hoj hji hjun hnot) (fun cs b => hsel i oi cs b hi) (fun cs b => hsel j oj cs b hoj) hQ hy h1
      have hfree' : ∀ k ok, ops[k]? = some ok → k ≠ i → (listed.setIfInBounds j true).getD k true = false →
          (∀ e ∈ ok.after, Region.binds md e = true → e.on ≠ i) → oi.apart ops ok = true := fun k ok hk hki hun hno => by
        refine hfree k ok hk hki ?_ hno
        by_cases hjk : j = k
        · subst hjk; exact hjun
        · rw [getD_set_ne true hjk] at hun; exact hun
      refine wpOp_mono (fun a' w' h3 => ?_) h2
      refine ⟨h3.2.1, ih (listed.setIfInBounds j true) a' w' hfree' (ready_mono hr (Ne.symm hji)) h3.1 ?_⟩
      rw [Array.setIfInBounds_comm _ _ hji]
      exact h3.2.2
/-- Take number i first. -/
theorem wpAnyN_take {i : Nat} {oi : Oper} {v : Value} {fuel : Nat} {listed : Array Bool} {a : Act} {w : World} (f : Nat) (hn : (n.all fun m => waitsT md ops f m i) = true) (hcl : closedB md ops listed = true) (hi : ops[i]? = some oi)
    (hs : Region.noSelect ops = true) (hf : Region.free md ops listed i = true) (hr : (Region.ready md ops listed).contains i = true)
    (hQ : ∀ c a w, Q (.panic c) (a.put oi.dst v) w → Q (.panic c) a w) (hS : S w) (hw : Region.wanted oi (yielded ops a.tmps) = true) (hy : ∀ w, S w → (execOp a.eval oi).run P w = .ok (.value v) w)
    (h : wpAnyN P md ops Q S n fuel (listed.setIfInBounds i true) (a.put oi.dst v) w) : wpAnyN P md ops Q S n (fuel + 1) listed a w :=
  wpAnyN_first f hn hi (Region.noSelect_spec hs) hQ fuel listed a w (Region.free_spec hi hf) (closed_of hcl) (by simpa using hr) (.inl ⟨hw, hy⟩) hS h
/-- Take number i first, which looks at no memory; it is one of those behind which S is not asked. -/
theorem wpAnyN_takeT {i : Nat} {oi : Oper} {v : Value} {fuel : Nat} {listed : Array Bool} {a : Act} {w : World} (hn : i ∈ n) (hi : ops[i]? = some oi)
    (hs : Region.noSelect ops = true) (hf : Region.free md ops listed i = true) (hr : (Region.ready md ops listed).contains i = true)
    (hQ : ∀ c a w, Q (.panic c) (a.put oi.dst v) w → Q (.panic c) a w) (hw : Region.wanted oi (yielded ops a.tmps) = true) (hy : ∀ w, (execOp a.eval oi).run P w = .ok (.value v) w)
    (h : wpAnyN P md ops Q S n fuel (listed.setIfInBounds i true) (a.put oi.dst v) w) : wpAnyN P md ops Q S n (fuel + 1) listed a w :=
  wpAnyN_firstT hn hi (Region.noSelect_spec hs) hQ fuel listed a w (Region.free_spec hi hf) (by simpa using hr) (.inl ⟨hw, fun w _ => hy w⟩) h
/-- Take number i first (the others' waiting is reckoned one after the other). -/
theorem wpAnyN_takeL {i : Nat} {oi : Oper} {v : Value} {fuel : Nat} {listed : Array Bool} {a : Act} {w : World} (hn : (n.all fun m => (reachL md ops i ops.size).getD m false) = true) (hcl : closedB md ops listed = true) (hi : ops[i]? = some oi)
    (hs : Region.noSelect ops = true) (hf : Region.free md ops listed i = true) (hr : (Region.ready md ops listed).contains i = true)
    (hQ : ∀ c a w, Q (.panic c) (a.put oi.dst v) w → Q (.panic c) a w) (hS : S w) (hw : Region.wanted oi (yielded ops a.tmps) = true) (hy : ∀ w, S w → (execOp a.eval oi).run P w = .ok (.value v) w)
    (h : wpAnyN P md ops Q S n fuel (listed.setIfInBounds i true) (a.put oi.dst v) w) : wpAnyN P md ops Q S n (fuel + 1) listed a w :=
  wpAnyN_take ops.size (List.all_eq_true.2 fun m hm => reachL_spec _ _ (List.all_eq_true.1 hn m hm)) hcl hi hs hf hr hQ hS hw hy h
/-- Where S is asked behind no operation that is left, the plain form is enough. -/
theorem wpAnyN_of_any : ∀ (fuel : Nat) (listed : Array Bool) (a : Act) (w : World), (∀ j, listed.getD j true = false → j ∈ n) → wpAny P md ops Q fuel listed a w → wpAnyN P md ops Q S n fuel listed a w
  | 0, _, _, _, _, h => h
  | fuel + 1, listed, a, w, hN, h => ⟨h.1, fun i hi => wpOp_mono (fun a' w' h' => ⟨.inl (hN i (mem_ready.1 hi).1), wpAnyN_of_any fuel _ a' w' (fun j hj => hN j (by
      by_cases e : i = j
      · subst e; exact (mem_ready.1 hi).1
      · rw [getD_set_ne true e] at hj; exact hj)) h'⟩) (h.2 i hi)⟩
/-- What is left is walked in the order of the text. -/
theorem wpAnyN_lex {C : World → Prop} {listed : Array Bool} {a : Act} {w : World} (k fuel : Nat) (hs : Region.noSelect ops = true) (hk : Region.lexFrom md ops (ops.toList.drop k).length k listed = true) (hf : fuel = (ops.toList.drop k).length)
    (hN : ((List.range ops.size).all fun j => listed.getD j true || n.contains j) = true) (hz : listed.size = ops.size) (hC : C w)
    (h : wpQuiet P ops C (fun a' => ∀ w', C w' → Q .normal a' w') (ops.toList.drop k) a) : wpAnyN P md ops Q S n fuel listed a w := by
  subst hf
  refine wpAnyN_of_any _ _ _ _ (fun j hj => ?_) (wpAny_of_quiet (C := C) (Q := fun a' => ∀ w', C w' → Q .normal a' w') (fun _ w' hw' h => h w' hw') _ _ _ _ hC (wpAnyQ_lex hs _ k listed a (fun j => by rw [List.getElem?_drop]; simp) hk h))
  have hlt : j < listed.size := Nat.lt_of_not_le fun hn => by
    rw [Array.getD_eq_getD_getElem?, Array.getElem?_eq_none hn] at hj
    cases hj
  have h1 := List.all_eq_true.1 hN j (List.mem_range.2 (by omega))
  rw [hj] at h1
  simpa using h1
/-- Number i alone may come up. -/
theorem wpAnyN_one {i : Nat} {o : Oper} {fuel : Nat} {listed : Array Bool} {a : Act} {w : World} (hr : Region.ready md ops listed = [i]) (ho : ops[i]? = some o)
    (h : ∀ K' : Act → World → Prop, Shut (∀ a w, S w → (S w → wpAnyN P md ops Q S n fuel (listed.setIfInBounds i true) a w) → K' a w) → if Region.wanted o (yielded ops a.tmps) = true then Oper.wp P o a w K' Q else K' (a.put o.dst undef) w) :
    wpAnyN P md ops Q S n (fuel + 1) listed a w :=
  ⟨fun h0 => (by rw [hr] at h0; cases h0), fun j hj => by
    rw [hr, List.mem_singleton] at hj
    subst hj
    exact wpOp_step ho (fun K' hK => h K' (fun a w hS hW => hK a w ⟨.inr hS, hW hS⟩))⟩
/-- Two operations come up last, one after the other. -/
theorem wpAnyN_tail2 {i j : Nat} {o o2 : Oper} {fuel : Nat} {listed : Array Bool} {a : Act} {w : World} (hr : Region.ready md ops listed = [i]) (ho : ops[i]? = some o) (hr2 : Region.ready md ops (listed.setIfInBounds i true) = [j]) (ho2 : ops[j]? = some o2)
    (hr3 : Region.ready md ops ((listed.setIfInBounds i true).setIfInBounds j true) = []) (hi : i ∈ n) (hj : j ∈ n) (h : wpList P ops Q [o, o2] a w) : wpAnyN P md ops Q S n (fuel + 2) listed a w :=
  ⟨fun h0 => (by rw [hr] at h0; cases h0), fun k hk => by
    rw [hr, List.mem_singleton] at hk
    subst hk
    have hw : wpOp P ops Q k (wpList P ops Q [o2]) a w := by unfold wpOp; simp only [ho]; exact h
    refine wpOp_mono (fun a' w' h' => ⟨.inl hi, ⟨fun h0 => (by rw [hr2] at h0; cases h0), fun k2 hk2 => ?_⟩⟩) hw
    rw [hr2, List.mem_singleton] at hk2
    subst hk2
    have hw2 : wpOp P ops Q k2 (wpList P ops Q []) a' w' := by unfold wpOp; simp only [ho2]; exact h'
    refine wpOp_mono (fun a'' w'' h'' => ⟨.inl hj, ?_⟩) hw2
    have h'' : Q .normal a'' w'' := h''
    cases fuel with
    | zero => exact ⟨hr3, h''⟩
    | succ f => exact ⟨fun _ => h'', by rw [hr3]; simp⟩⟩
/-- The beginning: S is shown of the world behind the draw. -/
theorem wp_region_N {id : Nat} {a : Act} {w : World} (S : World → Prop) (n : List Nat) (hm : P.follows .mixedOrders = true) (hS : S w.drew)
    (h : S w.drew → wpAnyN P .any ops Q S n ops.size (Array.replicate ops.size false) a w.drew) : (Code.region id ops true).wp P Q a w :=
  wp_region_any hm (wpAny_of_N _ _ _ _ (h hS))
end
end Go.Proofs.YteiflbhcehajkaaGreatDoor
