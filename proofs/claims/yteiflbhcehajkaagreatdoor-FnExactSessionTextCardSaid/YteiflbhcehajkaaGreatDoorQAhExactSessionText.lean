/- What valid sessions and caches are, in plain words. Plain laws on decimal numbers: what is written is read back. No program is named here. The texts of nodes, patches, mixers and sessions, in plain words. How long the texts of sessions are. Contracts: wrapped numbers, copies, differences. Contracts: differences of an order; PredictSignal of both sides. Contracts: lengths of Rice codes, the best parameter, the best order. -/
import Derived.Test.YteiflbhcehajkaaGreatDoorQAbExactSessionText
import Derived.Test.YteiflbhcehajkaaGreatDoorQAaExactSessionText
import Derived.Lib.ItoaNum
import Derived.Lib.ItoaLen
import Derived.Lib.ParseIntB
import Derived.Lib.ParseIntBCases
import Derived.Lib.ParseIntBTie
import Derived.Lib.Join
import Derived.Test.YteiflbhcehajkaaGreatDoorQAdExactSessionText
import Derived.Deep.RegionWith
set_option linter.unusedVariables false
set_option linter.unusedSimpArgs false
section
namespace Go.Proofs.YteiflbhcehajkaaGreatDoor
open Go.RowKit
noncomputable def tf (p : Prop) : Bool := @decide p (Classical.propDecidable p)
theorem tf_yes {p : Prop} (h : p) : tf p = true := by unfold tf; exact @decide_eq_true p (Classical.propDecidable p) h
theorem tf_no {p : Prop} (h : ¬ p) : tf p = false := by unfold tf; exact @decide_eq_false p (Classical.propDecidable p) h
theorem tf_iff {p q : Prop} (h : p ↔ q) : tf p = tf q := by rw [propext h]
theorem tf_dec {p : Prop} [d : Decidable p] : tf p = decide p := by
  by_cases h : p
  · rw [tf_yes h, decide_eq_true h]
  · rw [tf_no h, decide_eq_false h]
/-- The first k elements are right; all are. -/
def Upto {α : Type} (xs : List α) (Q : Nat → α → Prop) (k : Nat) : Prop := ∀ i x, i < k → xs[i]? = some x → Q i x
def Each {α : Type} (xs : List α) (Q : Nat → α → Prop) : Prop := ∀ i x, xs[i]? = some x → Q i x
section
variable {α : Type} {xs : List α} {Q : Nat → α → Prop} {k : Nat} {x : α}
theorem Upto.zero : Upto xs Q 0 := fun i _ h => absurd h (Nat.not_lt_zero i)
theorem Upto.step (h : Upto xs Q k) (hx : xs[k]? = some x) (q : Q k x) : Upto xs Q (k + 1) := by
  intro i y hi hy
  by_cases e : i = k
  · subst e
    rw [hx] at hy
    injection hy with hy
    subst hy
    exact q
  · exact h i y (by omega) hy
theorem Upto.all (h : Upto xs Q k) (hk : xs.length ≤ k) : Each xs Q := fun i y hy => h i y (Nat.lt_of_lt_of_le (List.getElem?_eq_some_iff.1 hy).1 hk) hy
theorem Each.of_mem {P : α → Prop} : Each xs (fun _ y => P y) ↔ ∀ y ∈ xs, P y := by
  constructor
  · intro h y hy
    obtain ⟨i, hi, rfl⟩ := List.mem_iff_getElem.1 hy
    exact h i _ (List.getElem?_eq_getElem hi)
  · intro h i y hy
    exact h y (List.mem_of_getElem? hy)
end
/-- Numbers from 0 on and below n. -/
def Idx (l : List Int) (n : Int) : Prop := Each l fun _ x => 0 ≤ x ∧ x ≤ n - 1
structure ClipOk (c : GClip) : Prop where
  source : inB c.fSource 0 5 = true
  length : inB c.fLength 1 4000 = true
  from_ : inB c.fFrom 0 (4000 - c.fLength) = true
  at_ : inB c.fAt 0 (4000 - c.fLength) = true
  gain : Smp c.fGain
structure TrackOk (t : GTrack) : Prop where
  clips : Each t.fClips fun i c => ClipOk c ∧ ∀ p, 0 < i → t.fClips[i - 1]? = some p → p.fAt ≤ c.fAt
  few : t.fClips.length ≤ 12
def befS (l : List GSend) (strip : Int) (i : Nat) : Int := if i = 0 then strip else (l.getD (i - 1) ⟨0, 0⟩).fTo
structure SendsOk (l : List GSend) (strip n : Int) : Prop where
  each : Each l fun i x => inB x.fTo (befS l strip i + 1) (n - 1) = true ∧ Smp x.fGain
  last : strip = n - 1 → l.length = 0
  few : strip ≠ n - 1 → 1 ≤ l.length ∧ l.length ≤ 4
def smallN (c : Nat) : Prop := 97 ≤ c ∧ c ≤ 122
def digitN (c : Nat) : Prop := 48 ≤ c ∧ c ≤ 57
structure NameOk (s : ByteArray) : Prop where
  some_ : 1 ≤ s.size
  few : s.size ≤ 10
  each : ∀ i, i < s.size → smallN (bA s i) ∨ (digitN (bA s i) ∧ i ≠ 0)
structure StripOk (x : GStrip) (i n : Int) : Prop where
  name : NameOk x.fName
  latency : inB x.fLatency 0 32 = true
  sends : SendsOk x.fSends i n
structure MixerOk (m : GMixer) : Prop where
  some_ : 1 ≤ m.fStrips.length
  few : m.fStrips.length ≤ 8
  each : Each m.fStrips fun i x => StripOk x (i : Int) (m.fStrips.length : Int) ∧ ∀ j y, j < i → m.fStrips[j]? = some y → y.fName ≠ x.fName
structure SourcesOk (ss : List (List Int)) : Prop where
  each : Each ss fun _ l => sigB l = true
  few : ss.length ≤ 6
structure TablesOk (ts : List (List Int)) : Prop where
  each : Each ts fun _ t => (t.length = 2 ∨ t.length = 4 ∨ t.length = 8 ∨ t.length = 16) ∧ smpB t = true
  few : ts.length ≤ 4
/-- What is known of a kind of nodes: its inputs, the range of A (none if the first is greater), whether it has B. -/
structure Knd where
  inputs : Int
  low : Int
  high : Int
  linear : Bool
  hasB : Bool
def kndL : List Knd := [⟨0, 0, 3, true, false⟩, ⟨0, -2147483648, 2147483647, false, false⟩, ⟨2, 1, 0, true, false⟩, ⟨2, 1, 0, true, false⟩, ⟨1, -2147483648, 2147483647, true, false⟩, ⟨1, 1, 16, true, false⟩, ⟨1, 1, 0, true, false⟩, ⟨1, 1, 0, true, false⟩, ⟨2, 1, 0, false, false⟩, ⟨1, 0, 31, false, false⟩, ⟨1, 0, 2147483647, false, false⟩, ⟨1, -2147483648, 2147483647, false, false⟩, ⟨1, 0, 3, false, false⟩, ⟨0, -2147483648, 2147483647, false, false⟩, ⟨3, 1, 0, false, false⟩, ⟨2, 1, 0, false, false⟩, ⟨1, -2147483648, 2147483647, true, true⟩]
def kndF (k : Int) : Knd := kndL.getD (k - 1).toNat ⟨0, 0, 0, false, false⟩
structure NodeOk (x : GNode) (tables : Int) : Prop where
  kind : inB x.fKind 1 17 = true
  a : if (kndF x.fKind).low ≤ (kndF x.fKind).high then inB x.fA (kndF x.fKind).low (kndF x.fKind).high = true else x.fA = 0
  b : if (kndF x.fKind).hasB then inB x.fB 1 16 = true else x.fB = 0
  from_ : Each x.fFrom fun _ f => inB f 0 23 = true
  arity : (x.fFrom.length : Int) = (kndF x.fKind).inputs
  table : x.fKind = 13 → x.fA < tables
structure FormedOk (p : GPatch) : Prop where
  inputs : inB p.fInputs 0 4 = true
  tables : TablesOk p.fTables
  few : p.fNodes.length ≤ 24
  outs : p.fOutputs.length ≤ 4
  outputs : Idx p.fOutputs (p.fNodes.length : Int)
  nodes : Each p.fNodes fun _ x => NodeOk x (p.fTables.length : Int) ∧ Idx x.fFrom (p.fNodes.length : Int) ∧ (x.fKind = 1 → x.fA < p.fInputs)
/-- The nodes that a node waits for. -/
def waitsF (x : GNode) : List Int := if x.fKind = 6 then [] else x.fFrom
def readyB (nodes : List GNode) (out : List Int) (i : Nat) : Bool := !out.contains (i : Int) && ((nodes[i]?).map fun x => (waitsF x).all fun f => out.contains f).getD false
def nextF (nodes : List GNode) (out : List Int) : Option Nat := (List.range nodes.length).find? (readyB nodes out)
/-- The order in which nodes are computed: the first steps. -/
def ordNodes (nodes : List GNode) : Nat → List Int
  | 0 => []
  | k + 1 => match nextF nodes (ordNodes nodes k) with
    | some i => ordNodes nodes k ++ [(i : Int)]
    | none => ordNodes nodes k
def orderF (nodes : List GNode) : List Int := ordNodes nodes nodes.length
theorem ordNodes_stop {nodes : List GNode} {k : Nat} (h : nextF nodes (ordNodes nodes k) = none) : ∀ m, ordNodes nodes (k + m) = ordNodes nodes k := by
  intro m
  induction m with
  | zero => rfl
  | succ m ih =>
    rw [← Nat.add_assoc]
    simp only [ordNodes]
    rw [ih, h]
theorem nextF_some {nodes : List GNode} {out : List Int} {i : Nat} (hi : i < nodes.length) (hr : readyB nodes out i = true) (hb : ∀ j, j < i → readyB nodes out j = false) : nextF nodes out = some i := by
  unfold nextF
  rw [List.find?_eq_some_iff_getElem]
  refine ⟨hr, i, by simpa using hi, by simp, fun j hj => by simp [hb j hj]⟩
theorem nextF_none {nodes : List GNode} {out : List Int} (hb : ∀ j, j < nodes.length → readyB nodes out j = false) : nextF nodes out = none := by
  unfold nextF
  rw [List.find?_eq_none]
  intro j hj
  simp [hb j (by simpa using hj)]
theorem nextF_inv {nodes : List GNode} {out : List Int} {i : Nat} (h : nextF nodes out = some i) : i < nodes.length ∧ readyB nodes out i = true := by
  unfold nextF at h
  exact ⟨by simpa using List.mem_of_find?_eq_some h, List.find?_some h⟩
theorem ordNodes_in {nodes : List GNode} : ∀ k, (ordNodes nodes k).Nodup ∧ ∀ x ∈ ordNodes nodes k, 0 ≤ x ∧ x < (nodes.length : Int)
  | 0 => by simp [ordNodes]
  | k + 1 => by
    obtain ⟨h1, h2⟩ := ordNodes_in (nodes := nodes) k
    simp only [ordNodes]
    split
    · next i h =>
      obtain ⟨hi, hr⟩ := nextF_inv h
      have hn : (i : Int) ∉ ordNodes nodes k := by
        simp only [readyB, Bool.and_eq_true, Bool.not_eq_true'] at hr
        simpa using hr.1
      refine ⟨?_, ?_⟩
      · rw [List.nodup_append]
        refine ⟨h1, by simp, fun a ha b hb e => ?_⟩
        simp at hb
        subst hb e
        exact hn ha
      · intro x hx
        rcases List.mem_append.1 hx with hx | hx
        · exact h2 x hx
        · simp at hx; subst hx; omega
    · exact ⟨h1, h2⟩
theorem nodup_range : ∀ (n : Nat) (l : List Nat), l.Nodup → (∀ x ∈ l, x < n) → l.length ≤ n
  | 0, [], _, _ => Nat.le_refl _
  | 0, x :: _, _, h => absurd (h x (by simp)) (by omega)
  | n + 1, l, h1, h2 => by
    by_cases hm : n ∈ l
    · have h3 := nodup_range n (l.erase n) (h1.erase n) (fun x hx => by
        have := (h1.mem_erase_iff).1 hx
        have h4 := h2 x this.2
        have h5 := this.1
        omega)
      rw [List.length_erase_of_mem hm] at h3
      omega
    · have h3 := nodup_range n l h1 (fun x hx => by
        have h4 := h2 x hx
        have : x ≠ n := fun e => hm (e ▸ hx)
        omega)
      omega
theorem nodup_bound {n : Nat} {l : List Int} (h1 : l.Nodup) (h2 : ∀ x ∈ l, 0 ≤ x ∧ x < (n : Int)) : l.length ≤ n := by
  have h3 : (l.map Int.toNat).Nodup := by
    rw [List.Nodup, List.pairwise_map]
    refine List.Pairwise.imp_of_mem ?_ h1
    intro a b ha hb hab e
    have := h2 a ha
    have := h2 b hb
    omega
  have := nodup_range n _ h3 (fun x hx => by
    obtain ⟨y, hy, rfl⟩ := List.mem_map.1 hx
    have := h2 y hy
    omega)
  simpa using this
theorem ordNodes_cap {nodes : List GNode} (k : Nat) : (ordNodes nodes k).length ≤ nodes.length := nodup_bound (ordNodes_in k).1 (ordNodes_in k).2
/-- Where the order stops, it has stopped for good. -/
theorem orderF_of_stop {nodes : List GNode} {k : Nat} (h : nextF nodes (ordNodes nodes k) = none) (hk : (ordNodes nodes k).length = k) : orderF nodes = ordNodes nodes k := by
  have hc := ordNodes_cap (nodes := nodes) k
  unfold orderF
  rw [show nodes.length = k + (nodes.length - k) by omega]
  exact ordNodes_stop h _
theorem ordNodes_snoc {nodes : List GNode} {k i : Nat} (h : nextF nodes (ordNodes nodes k) = some i) : ordNodes nodes (k + 1) = ordNodes nodes k ++ [(i : Int)] := by
  simp only [ordNodes, h]
structure PatchOk (p : GPatch) : Prop where
  formed : FormedOk p
  order : (orderF p.fNodes).length = p.fNodes.length
def noPatch : GPatch := ⟨0, [], [], []⟩
def EffectOk (p : GPatch) : Prop := p = noPatch ∨ (PatchOk p ∧ p.fInputs = 1 ∧ p.fOutputs.length = 1)
structure SessionOk (s : GSession) : Prop where
  length : inB s.fLength 0 1000 = true
  sources : SourcesOk s.fSources
  few : s.fTracks.length ≤ 6
  mixer : MixerOk s.fMixer
  feed : s.fFeeds.length = s.fTracks.length
  feeds : Idx s.fFeeds (s.fMixer.fStrips.length : Int)
  effect : s.fEffects.length = s.fMixer.fStrips.length
  tracks : Each s.fTracks fun _ t => TrackOk t ∧ Each t.fClips fun _ c => c.fSource < (s.fSources.length : Int)
  effects : Each s.fEffects fun _ p => EffectOk p
end Go.Proofs.YteiflbhcehajkaaGreatDoor
end
section
namespace Go.Proofs.YteiflbhcehajkaaGreatDoor
open Go.Lib
/-- A number in decimal. -/
def decL (n : Int) : List UInt8 := itoa n
def decS (n : Int) : ByteArray := mkS (decL n)
def digB (b : UInt8) : Bool := decide (48 ≤ b.toNat ∧ b.toNat ≤ 57)
def numV (a : Nat) (l : List UInt8) : Nat := l.foldl (fun a b => a * 10 + (b.toNat - 48)) a
theorem numV_nil (a : Nat) : numV a [] = a := rfl
theorem numV_cons (a : Nat) (b : UInt8) (t : List UInt8) : numV a (b :: t) = numV (a * 10 + (b.toNat - 48)) t := by unfold numV; rw [List.foldl_cons]
theorem numV_append (x y : List UInt8) (a : Nat) : numV a (x ++ y) = numV (numV a x) y := List.foldl_append
theorem numV_one (a : Nat) (b : UInt8) : numV a [b] = a * 10 + (b.toNat - 48) := by rw [numV_cons, numV_nil]
theorem dig_of {d : Nat} (h : d < 10) : (UInt8.ofNat (48 + d)).toNat = 48 + d := UInt8.toNat_ofNat_of_lt' (by show 48 + d < 256; omega)
theorem decDigits_small {u : Nat} (h : u < 10) : decDigits u = [UInt8.ofNat (48 + u)] := by rw [decDigits, dif_pos h]
theorem decDigits_big {u : Nat} (h : ¬ u < 10) : decDigits u = decDigits (u / 10) ++ [UInt8.ofNat (48 + u % 10)] := by rw [decDigits, dif_neg h]
theorem dec_digits (u : Nat) : (∀ b ∈ decDigits u, digB b = true) ∧ numV 0 (decDigits u) = u ∧ decDigits u ≠ [] := by
  induction u using Nat.strongRecOn with
  | _ u ih =>
    by_cases h : u < 10
    · rw [decDigits_small h]
      refine ⟨?_, ?_, by simp⟩
      · intro b hb
        simp only [List.mem_singleton] at hb
        subst hb
        unfold digB
        rw [dig_of h]
        simp; omega
      · rw [numV_one, dig_of h]; omega
    · obtain ⟨h1, h2, h3⟩ := ih (u / 10) (by omega)
      rw [decDigits_big h]
      refine ⟨?_, ?_, by simp⟩
      · intro b hb
        rcases List.mem_append.1 hb with hb | hb
        · exact h1 b hb
        · simp only [List.mem_singleton] at hb
          subst hb
          unfold digB
          rw [dig_of (Nat.mod_lt _ (by omega))]
          have := Nat.mod_lt u (show 10 > 0 by omega)
          simp; omega
      · rw [numV_append, h2]
        rw [numV_one, dig_of (Nat.mod_lt _ (by omega))]
        omega
/-- The digits that are there already, when a number is taken apart from behind. -/
def preD (u : Nat) : List UInt8 := if u = 0 then [] else decDigits u
theorem preD_step {u : Nat} (h : u ≠ 0) : preD u = preD (u / 10) ++ [UInt8.ofNat (48 + u % 10)] := by
  unfold preD
  rw [if_neg h]
  by_cases h1 : u < 10
  · rw [decDigits_small h1, if_pos (by omega)]
    have : u % 10 = u := by omega
    rw [this]; rfl
  · rw [decDigits_big h1, if_neg (by omega)]
theorem preD_len (k : Nat) : ∀ u, u < 10 ^ k → (preD u).length ≤ k := by
  induction k with
  | zero => intro u h; have : u = 0 := by simpa using h
            subst this; simp [preD]
  | succ k ih =>
    intro u h
    by_cases h0 : u = 0
    · subst h0; simp [preD]
    · rw [preD_step h0, List.length_append]
      have := ih (u / 10) (by rw [Nat.pow_succ] at h; omega)
      simp; omega
theorem decL_zero : decL 0 = [48] := by
  unfold decL itoa
  rw [if_neg (by omega), decDigits_small (by simp)]
  rfl
theorem decL_pos {n : Int} (h : 0 < n) : decL n = preD n.natAbs := by
  unfold decL itoa preD
  rw [if_neg (by omega), if_neg (by omega)]
  congr 1; omega
theorem decL_neg {n : Int} (h : n < 0) : decL n = 45 :: preD n.natAbs := by
  unfold decL itoa preD
  rw [if_pos h, if_neg (by omega)]
theorem length_decL {n : Int} (h0 : -9223372036854775808 ≤ n) (h1 : n ≤ 9223372036854775807) : (decL n).length ≤ 21 := itoa_length_le n h0 h1
theorem decL_plain (n : Int) : ∀ b ∈ decL n, b = 45 ∨ digB b = true := by
  intro b hb
  unfold decL itoa at hb
  split at hb
  · rcases List.mem_cons.1 hb with rfl | hb
    · exact .inl rfl
    · exact .inr ((dec_digits _).1 b hb)
  · exact .inr ((dec_digits _).1 b hb)
end Go.Proofs.YteiflbhcehajkaaGreatDoor
end
section
namespace Go.Proofs.YteiflbhcehajkaaGreatDoor
open Go.RowKit
theorem inBk {n a b : Int} : inB n a b = true ↔ a ≤ n ∧ n ≤ b := by simp [inB]
theorem str_is {s : ByteArray} {l : List UInt8} (h : s.data.toList = l) : s = mkS l := by rw [← h, mkS_data]
theorem dat_app (a b : ByteArray) : (a ++ b).data.toList = a.data.toList ++ b.data.toList := by simp
theorem dat_dec (n : Int) : (decS n).data.toList = decL n := rfl
theorem dat_mk (l : List UInt8) : (mkS l).data.toList = l := rfl
/-- The first k elements' texts, and one more. -/
theorem flat_take {α : Type} {xs : List α} {k : Nat} {x : α} (f : α → List UInt8) (h : xs[k]? = some x) : (xs.take (k + 1)).flatMap f = (xs.take k).flatMap f ++ f x := by
  rw [List.take_add_one, h]; simp
theorem flat_le {α : Type} {f : α → List UInt8} {c : Nat} : ∀ {xs : List α}, (∀ x ∈ xs, (f x).length ≤ c) → (xs.flatMap f).length ≤ xs.length * c
  | [], _ => by simp
  | x :: r, h => by
    have h1 := h x (by simp)
    have h2 := flat_le (xs := r) (fun y hy => h y (by simp [hy]))
    simp only [List.flatMap_cons, List.length_append, List.length_cons, Nat.add_mul, Nat.one_mul]
    omega
/-- Numbers, each behind a blank. -/
def blankL (n : Int) : List UInt8 := 32 :: decL n
def blanks (l : List Int) : List UInt8 := l.flatMap blankL
def wrdL (p : List UInt8) (l : List Int) : List UInt8 := p ++ blanks l
theorem dec_len {n : Int} (h : I64 n) : (decL n).length ≤ 21 := length_decL (by have := h.1; omega) (by have := h.2; omega)
theorem blank_len {n : Int} (h : I64 n) : (blankL n).length ≤ 22 := by simp only [blankL, List.length_cons]; have := dec_len h; omega
theorem blanks_len {l : List Int} (h : ∀ n ∈ l, I64 n) : (blanks l).length ≤ l.length * 22 := flat_le fun n hn => blank_len (h n hn)
theorem blanks_take {l : List Int} {k : Nat} {n : Int} (h : l[k]? = some n) : blanks (l.take (k + 1)) = blanks (l.take k) ++ blankL n := flat_take _ h
/-- Words with blanks between them. -/
def sepL : List (List UInt8) → List UInt8
  | [] => []
  | x :: r => x ++ r.flatMap fun y => 32 :: y
theorem join_sep (l : List (List UInt8)) : Lib.join l [32] = sepL l := by
  cases l with
  | nil => rfl
  | cons x r =>
    unfold Lib.join sepL
    induction r generalizing x with
    | nil => simp [List.intercalate]
    | cons y r ih => 
      have := ih y
      simp only [List.intercalate, List.intersperse, List.flatten_cons, List.flatMap_cons] at this ⊢
      rw [this]
      simp
theorem sepL_app (a : List (List UInt8)) (h : a ≠ []) (r : List (List UInt8)) : sepL (a ++ r) = sepL a ++ r.flatMap fun y => 32 :: y := by
  cases a with
  | nil => exact absurd rfl h
  | cons x t => simp [sepL]
theorem sep_dec (l : List Int) : sepL (l.map decL) = (blanks l).drop 1 := by
  cases l with
  | nil => rfl
  | cons n r =>
    simp only [List.map_cons, sepL, blanks, List.flatMap_cons, blankL, List.cons_append, List.drop_succ_cons, List.drop_zero]
    congr 1
    induction r with
    | nil => rfl
    | cons m r ih => simp only [List.map_cons, List.flatMap_cons, ih, blankL]
theorem blanks_cons {l : List Int} (h : l ≠ []) : blanks l = 32 :: (blanks l).drop 1 := by
  cases l with
  | nil => exact absurd rfl h
  | cons n r => simp [blanks, blankL]
def kndN : List (List UInt8) := [[105, 110, 112, 117, 116], [99, 111, 110, 115, 116], [97, 100, 100], [115, 117, 98], [103, 97, 105, 110], [100, 101, 108, 97, 121], [115, 117, 109], [100, 105, 102, 102], [109, 117, 108], [115, 104, 105, 102, 116], [99, 108, 105, 112], [112, 104, 97, 115, 101], [116, 97, 98, 108, 101], [110, 111, 105, 115, 101], [115, 101, 108, 101, 99, 116], [104, 111, 108, 100], [99, 111, 109, 98]]
def nameK (k : Int) : List UInt8 := kndN.getD (k - 1).toNat []
theorem nameK_len (k : Int) : (nameK k).length ≤ 6 := by
  unfold nameK
  rw [List.getD_eq_getElem?_getD]
  rcases Nat.lt_or_ge (k - 1).toNat 17 with h | h
  · have : ∀ i, i < 17 → ((kndN[i]?).getD []).length ≤ 6 := by decide
    exact this _ h
  · rw [List.getElem?_eq_none (by simpa [kndN] using h)]; simp
def ofL (l : List Int) : List UInt8 := if l = [] then [] else [32, 111, 102] ++ blanks l
def nodeL (x : GNode) : List UInt8 := nameK x.fKind ++ (if (kndF x.fKind).low ≤ (kndF x.fKind).high then blankL x.fA else []) ++ (if (kndF x.fKind).hasB = true then blankL x.fB else []) ++ ofL x.fFrom
def lineL (l : List UInt8) : List UInt8 := l ++ [10]
def patchL (p : GPatch) : List UInt8 := lineL (wrdL [112, 97, 116, 99, 104] [p.fInputs]) ++ p.fTables.flatMap (fun t => lineL (wrdL [118, 97, 108, 117, 101, 115] t)) ++ p.fNodes.flatMap (fun x => lineL (nodeL x)) ++ lineL (wrdL [111, 117, 116] p.fOutputs)
def patchLs (p : GPatch) : List (List UInt8) := [wrdL [112, 97, 116, 99, 104] [p.fInputs]] ++ p.fTables.map (wrdL [118, 97, 108, 117, 101, 115]) ++ p.fNodes.map nodeL ++ [wrdL [111, 117, 116] p.fOutputs]
def linesL (ls : List (List UInt8)) : List UInt8 := ls.flatMap lineL
theorem patch_lines (p : GPatch) : linesL (patchLs p) = patchL p := by
  unfold linesL patchLs patchL
  simp [List.flatMap_append, List.flatMap_map]
theorem join_lines : ∀ (ls : List (List UInt8)), ls ≠ [] → Lib.join ls [10] ++ [10] = linesL ls
  | [], h => absurd rfl h
  | [x], _ => by simp [Lib.join, List.intercalate, linesL, lineL]
  | x :: y :: r, _ => by
    have ih := join_lines (y :: r) (by simp)
    unfold Lib.join linesL lineL at *
    simp only [List.intercalate, List.intersperse, List.flatten_cons, List.flatMap_cons, List.append_assoc] at ih ⊢
    rw [ih]
def sendL (l : List GStrip) (s : GSend) : List UInt8 := [32, 116, 111, 32] ++ (l.getD s.fTo.toNat ⟨⟨#[]⟩, 0, []⟩).fName.data.toList ++ blankL s.fGain
def stripL (l : List GStrip) (x : GStrip) : List UInt8 := x.fName.data.toList ++ blankL x.fLatency ++ x.fSends.flatMap (sendL l)
def mixL (m : GMixer) : List UInt8 := m.fStrips.flatMap fun x => lineL (stripL m.fStrips x)
def clipL (c : GClip) : List UInt8 := lineL (wrdL [99, 108, 105, 112] [c.fSource, c.fFrom, c.fLength, c.fAt, c.fGain])
def trackL (t : GTrack × Int) : List UInt8 := lineL (wrdL [116, 114, 97, 99, 107] [t.2]) ++ t.1.fClips.flatMap clipL
noncomputable def effL (e : GPatch) : List UInt8 := if e = noPatch then [] else (linesF (mkS (patchL e))).flatMap fun l => [58, 32] ++ l.data.toList ++ [10]
noncomputable def strL (e : ByteArray × GPatch) : List UInt8 := [115, 116, 114, 105, 112, 32] ++ e.1.data.toList ++ [10] ++ effL e.2
def headL (x : GSession) : List UInt8 := lineL (wrdL [115, 101, 115, 115, 105, 111, 110] [x.fLength]) ++ x.fSources.flatMap fun s => lineL (wrdL [115, 111, 117, 114, 99, 101] s)
noncomputable def sesL (x : GSession) : List UInt8 := headL x ++ (x.fTracks.zip x.fFeeds).flatMap trackL ++ ((linesF (mkS (mixL x.fMixer))).zip x.fEffects).flatMap strL
noncomputable def textS (x : GSession) : ByteArray := if tf (SessionOk x) = true then mkS (sesL x) else ⟨#[]⟩
theorem textS_yes {x : GSession} (h : SessionOk x) : textS x = mkS (sesL x) := if_pos (tf_yes h)
theorem textS_no {x : GSession} (h : ¬ SessionOk x) : textS x = ⟨#[]⟩ := if_neg (by rw [tf_no h]; simp)
/-- How long texts are. -/
theorem line_len (l : List UInt8) : (lineL l).length = l.length + 1 := by simp [lineL]
theorem word_len {p : List UInt8} {l : List Int} {c : Nat} (h : ∀ n ∈ l, I64 n) (hc : l.length ≤ c) : (wrdL p l).length ≤ p.length + c * 22 := by
  unfold wrdL
  rw [List.length_append]
  have := blanks_len h
  have := Nat.mul_le_mul_right 22 hc
  omega
theorem of_len {l : List Int} {c : Nat} (h : ∀ n ∈ l, I64 n) (hc : l.length ≤ c) : (ofL l).length ≤ 3 + c * 22 := by
  unfold ofL
  split
  · simp
  · rw [List.length_append]
    have := blanks_len h
    have := Nat.mul_le_mul_right 22 hc
    have : ([32, 111, 102] : List UInt8).length = 3 := rfl
    omega
theorem knd_in (k : Int) : (kndF k).inputs ≤ 3 := by
  unfold kndF
  rw [List.getD_eq_getElem?_getD]
  rcases Nat.lt_or_ge (k - 1).toNat 17 with h | h
  · have : ∀ i, i < 17 → ((kndL[i]?).getD ⟨0, 0, 0, false, false⟩).inputs ≤ 3 := by decide
    exact this _ h
  · rw [List.getElem?_eq_none (by simpa [kndL] using h)]; simp
theorem node_len {x : GNode} (h : x.good) (hc : x.fFrom.length ≤ 24) : (nodeL x).length ≤ 600 := by
  obtain ⟨_, ha, hb, hf⟩ := h
  unfold nodeL
  simp only [List.length_append]
  have h1 := nameK_len x.fKind
  have h2 := of_len hf hc
  have h3 := blank_len ha
  have h4 := blank_len hb
  split <;> split <;> (try simp only [List.length_nil]) <;> omega
theorem name_nl {s : ByteArray} (h : NameOk s) : s.data.toList.count 10 = 0 := by
  rw [List.count_eq_zero]
  intro hm
  obtain ⟨i, hi, he⟩ := List.mem_iff_getElem.1 hm
  have hs : i < s.size := by simpa using hi
  have := h.each i hs
  have e2 : bA s i = 10 := by
    unfold bA
    rw [List.getD_eq_getElem?_getD, List.getElem?_eq_getElem hi, he]; rfl
  unfold smallN digitN at this
  omega
theorem dec_nl (n : Int) : (decL n).count 10 = 0 := by
  rw [List.count_eq_zero]
  intro hm
  rcases decL_plain n 10 hm with h | h
  · exact absurd h (by decide)
  · exact absurd h (by decide)
theorem blank_nl (n : Int) : (blankL n).count 10 = 0 := by
  unfold blankL
  rw [List.count_cons, dec_nl]; rfl
theorem flat_nl {α : Type} {f : α → List UInt8} {c : Nat} : ∀ {xs : List α}, (∀ x ∈ xs, (f x).count 10 = c) → (xs.flatMap f).count 10 = xs.length * c
  | [], _ => by simp
  | x :: r, h => by
    have h1 := h x (by simp)
    have h2 := flat_nl (xs := r) (fun y hy => h y (by simp [hy]))
    simp only [List.flatMap_cons, List.count_append, List.length_cons, Nat.add_mul, Nat.one_mul]
    omega
theorem mixer_to {m : GMixer} (h : MixerOk m) {x : GStrip} (hx : x ∈ m.fStrips) {s : GSend} (hs : s ∈ x.fSends) : ∃ t, m.fStrips[s.fTo.toNat]? = some t ∧ 0 ≤ s.fTo ∧ s.fTo < m.fStrips.length ∧ NameOk t.fName := by
  obtain ⟨i, hi⟩ := List.getElem?_of_mem hx
  obtain ⟨k, hk⟩ := List.getElem?_of_mem hs
  have h1 := ((h.each i x hi).1.sends.each k s hk).1
  have h2 := inBk.1 h1
  have h3 : 0 ≤ s.fTo := by
    have : 0 ≤ befS x.fSends (i : Int) k := by
      unfold befS
      split
      · omega
      · rename_i hne
        have hl : k - 1 < x.fSends.length := by have := (List.getElem?_eq_some_iff.1 hk).1; omega
        have h4 : ∀ j, j < x.fSends.length → 0 ≤ (x.fSends.getD j ⟨0, 0⟩).fTo := by
          intro j
          induction j with
          | zero =>
            intro hj
            have e := List.getElem?_eq_getElem hj
            rw [List.getD_eq_getElem?_getD, e]
            have := inBk.1 ((h.each i x hi).1.sends.each 0 _ e).1
            unfold befS at this
            simp only [if_pos] at this
            simp only [Option.getD_some]
            omega
          | succ j ih =>
            intro hj
            have e := List.getElem?_eq_getElem hj
            rw [List.getD_eq_getElem?_getD, e]
            have := inBk.1 ((h.each i x hi).1.sends.each (j + 1) _ e).1
            unfold befS at this
            rw [if_neg (by omega)] at this
            have := ih (by omega)
            simp only [Nat.add_sub_cancel, Option.getD_some] at *
            omega
        exact h4 _ hl
    omega
  have h5 : s.fTo.toNat < m.fStrips.length := by omega
  exact ⟨m.fStrips[s.fTo.toNat], List.getElem?_eq_getElem h5, h3, by omega, (h.each _ _ (List.getElem?_eq_getElem h5)).1.name⟩
theorem strip_nl {m : GMixer} (h : MixerOk m) {x : GStrip} (hx : x ∈ m.fStrips) : (stripL m.fStrips x).count 10 = 0 := by
  obtain ⟨i, hi⟩ := List.getElem?_of_mem hx
  unfold stripL
  rw [List.count_append, List.count_append, name_nl (h.each i x hi).1.name, blank_nl, flat_nl (c := 0)]
  · simp
  · intro s hs
    obtain ⟨t, ht, _, _, hn⟩ := mixer_to h hx hs
    unfold sendL
    rw [List.getD_eq_getElem?_getD, ht, List.count_append, List.count_append, blank_nl]
    simp only [Option.getD_some]
    rw [name_nl hn]; rfl
theorem mix_lines {m : GMixer} (h : MixerOk m) : (linesF (mkS (mixL m))).length = m.fStrips.length := by
  rw [length_linesF, data_mkS]
  unfold mixL
  rw [flat_nl (c := 1), Nat.mul_one]
  intro x hx
  unfold lineL
  rw [List.count_append, strip_nl h hx]; rfl
theorem strip_len {m : GMixer} (h : MixerOk m) (hg : m.good) {x : GStrip} (hx : x ∈ m.fStrips) : (stripL m.fStrips x).length ≤ 200 := by
  obtain ⟨i, hi⟩ := List.getElem?_of_mem hx
  have hgx := hg x hx
  have hsd := (h.each i x hi).1.sends
  have h4 : x.fSends.length ≤ 4 := by
    by_cases e : (i : Int) = (m.fStrips.length : Int) - 1
    · have := hsd.last e; omega
    · exact (hsd.few e).2
  unfold stripL
  simp only [List.length_append]
  have h1 := (h.each i x hi).1.name.few
  have h1' : x.fName.data.toList.length = x.fName.size := Array.length_toList
  have h2 := blank_len hgx.2.1
  have h3 : (x.fSends.flatMap (sendL m.fStrips)).length ≤ x.fSends.length * 36 := flat_le fun s hs => by
    obtain ⟨t, ht, _, _, hn⟩ := mixer_to h hx hs
    unfold sendL
    rw [List.getD_eq_getElem?_getD, ht]
    simp only [List.length_append, Option.getD_some]
    have := hn.few
    have e : t.fName.data.toList.length = t.fName.size := Array.length_toList
    have := blank_len (hgx.2.2 s hs).2
    have : ([32, 116, 111, 32] : List UInt8).length = 4 := rfl
    omega
  omega
theorem mix_len {m : GMixer} (h : MixerOk m) (hg : m.good) : (mixL m).length ≤ 1608 := by
  unfold mixL
  have := flat_le (f := fun x => lineL (stripL m.fStrips x)) (c := 201) (xs := m.fStrips) (fun x hx => by rw [line_len]; have := strip_len h hg hx; omega)
  have := h.few
  have := Nat.mul_le_mul_right 201 h.few
  omega
theorem patch_len {p : GPatch} (h : FormedOk p) (hg : p.good) : (patchL p).length ≤ 20000 := by
  obtain ⟨g1, g2, g3, g4⟩ := hg
  unfold patchL
  simp only [List.length_append, line_len]
  have h1 := word_len (p := [112, 97, 116, 99, 104]) (l := [p.fInputs]) (c := 1) (by intro n hn; obtain rfl := List.mem_singleton.1 hn; exact g1) (Nat.le_refl _)
  have h2 := word_len (p := [111, 117, 116]) (l := p.fOutputs) (c := 4) g4 h.outs
  have h3 : (p.fTables.flatMap fun t => lineL (wrdL [118, 97, 108, 117, 101, 115] t)).length ≤ p.fTables.length * 400 := flat_le fun t ht => by
    obtain ⟨i, hi⟩ := List.getElem?_of_mem ht
    have e := (h.tables.each i t hi).1
    have := word_len (p := [118, 97, 108, 117, 101, 115]) (c := 16) (g2 t ht) (by omega)
    have : ([118, 97, 108, 117, 101, 115] : List UInt8).length = 6 := rfl
    rw [line_len]; omega
  have h4 : (p.fNodes.flatMap fun x => lineL (nodeL x)).length ≤ p.fNodes.length * 601 := flat_le fun x hx => by
    obtain ⟨i, hi⟩ := List.getElem?_of_mem hx
    have e := (h.nodes i x hi).1.arity
    have := node_len (g3 x hx) (by have := knd_in x.fKind; omega)
    rw [line_len]; omega
  have := Nat.mul_le_mul_right 400 h.tables.few
  have := Nat.mul_le_mul_right 601 h.few
  have : ([112, 97, 116, 99, 104] : List UInt8).length = 5 := rfl
  have : ([111, 117, 116] : List UInt8).length = 3 := rfl
  omega
end Go.Proofs.YteiflbhcehajkaaGreatDoor
end
section
namespace Go.Proofs.YteiflbhcehajkaaGreatDoor
open Go.RowKit
theorem flat_cut {α : Type} {xs : List α} (f : α → List UInt8) (k : Nat) : ((xs.take k).flatMap f).length ≤ (xs.flatMap f).length := by
  have e : xs.flatMap f = (xs.take k).flatMap f ++ (xs.drop k).flatMap f := by rw [← List.flatMap_append, List.take_append_drop]
  rw [e, List.length_append]; omega
theorem parts_sum (c : UInt8) (l : List UInt8) : ((partsL c l).flatMap id).length + l.count c = l.length := by
  induction l with
  | nil => simp [partsL]
  | cons b t ih =>
    unfold partsL
    split
    · next h => subst h; simp only [List.flatMap_cons, id, List.length_append, List.length_nil, List.count_cons_self, List.length_cons]; omega
    · next h =>
      have hn : List.count c (b :: t) = List.count c t := by simp [List.count_cons, h]
      rw [hn]
      cases hp : partsL c t with
      | nil => exact absurd hp (partsL_ne _ _)
      | cons q r => 
        rw [hp] at ih
        simp only [List.flatMap_cons, id, List.length_append, List.length_cons] at ih ⊢
        omega
theorem flat_pre (p : List UInt8) : ∀ ls : List (List UInt8), ((ls.flatMap fun l => p ++ l ++ [10])).length = (ls.flatMap id).length + ls.length * (p.length + 1)
  | [] => by simp
  | x :: r => by
    have := flat_pre p r
    simp only [List.flatMap_cons, List.length_append, List.length_cons, id, List.length_nil, Nat.add_mul, Nat.one_mul] at this ⊢
    omega
theorem drop_last_flat : ∀ (ls : List (List UInt8)), (ls.dropLast.flatMap id).length ≤ (ls.flatMap id).length
  | [] => by simp
  | [x] => by simp
  | x :: y :: r => by
    have := drop_last_flat (y :: r)
    simp only [List.dropLast_cons_cons, List.flatMap_cons, List.length_append] at this ⊢
    omega
def preL (p : List UInt8) (ls : List ByteArray) : List UInt8 := ls.flatMap fun l => p ++ l.data.toList ++ [10]
theorem preL_len (p : List UInt8) (s : ByteArray) : (preL p (linesF s)).length ≤ s.size * (p.length + 1) := by
  have hl : s.data.toList.length = s.size := Array.length_toList
  have e : preL p (linesF s) = ((partsL 10 s.data.toList).dropLast.flatMap fun l => p ++ l ++ [10]) := by
    unfold preL linesF partsB
    rw [← List.map_dropLast, List.flatMap_map]
    rfl
  rw [e, flat_pre]
  have h1 := drop_last_flat (partsL 10 s.data.toList)
  have h2 := parts_sum 10 s.data.toList
  have h3 : (partsL 10 s.data.toList).dropLast.length = s.data.toList.count 10 := by simp [length_partsL]
  rw [h3]
  have h5 : s.data.toList.count 10 ≤ s.size := by omega
  rw [hl] at h2
  generalize s.data.toList.count 10 = n at *
  generalize p.length = q
  have h6 := Nat.mul_le_mul_right q h5
  simp only [Nat.mul_add, Nat.mul_one]
  omega
theorem line_le {s l : ByteArray} (h : l ∈ linesF s) : l.size ≤ s.size := by
  unfold linesF partsB at h
  have h2 := (List.dropLast_sublist _).subset h
  obtain ⟨p, hp, rfl⟩ := List.mem_map.1 h2
  rw [size_mkS]
  have h3 := parts_sum 10 s.data.toList
  have e : s.data.toList.length = s.size := Array.length_toList
  have h4 : p.length ≤ ((partsL 10 s.data.toList).flatMap id).length := by
    obtain ⟨i, hi⟩ := List.getElem?_of_mem hp
    have := flat_cut (xs := partsL 10 s.data.toList) id (i + 1)
    rw [flat_take id hi, List.length_append] at this
    simp only [id] at this ⊢
    omega
  omega
theorem eff_pre (e : GPatch) : effL e = if e = noPatch then [] else preL [58, 32] (linesF (mkS (patchL e))) := rfl
theorem eff_len {e : GPatch} (h : EffectOk e) (hg : e.good) : (effL e).length ≤ 60000 := by
  rw [eff_pre]
  split
  · simp
  · next hn =>
    have hf := (h.resolve_left hn).1.formed
    have h1 := patch_len hf hg
    have h2 := preL_len [58, 32] (mkS (patchL e))
    rw [size_mkS] at h2
    have e3 : ([58, 32] : List UInt8).length + 1 = 3 := rfl
    rw [e3] at h2
    omega
theorem clip_len {c : GClip} (h : c.good) : (clipL c).length ≤ 115 := by
  obtain ⟨h1, h2, h3, h4, h5⟩ := h
  unfold clipL
  rw [line_len]
  have := word_len (p := [99, 108, 105, 112]) (l := [c.fSource, c.fFrom, c.fLength, c.fAt, c.fGain]) (c := 5) (by
    intro n hn
    simp only [List.mem_cons, List.not_mem_nil, or_false] at hn
    rcases hn with rfl | rfl | rfl | rfl | rfl <;> assumption) (Nat.le_refl _)
  have : ([99, 108, 105, 112] : List UInt8).length = 4 := rfl
  omega
theorem track_len {t : GTrack × Int} (h : TrackOk t.1) (hg : t.1.good) (hn : I64 t.2) : (trackL t).length ≤ 1408 := by
  unfold trackL
  rw [List.length_append, line_len]
  have h1 := word_len (p := [116, 114, 97, 99, 107]) (l := [t.2]) (c := 1) (by intro n hn'; obtain rfl := List.mem_singleton.1 hn'; exact hn) (Nat.le_refl _)
  have h2 := flat_le (f := clipL) (c := 115) (xs := t.1.fClips) (fun c hc => clip_len (hg c hc))
  have := Nat.mul_le_mul_right 115 h.few
  have : ([116, 114, 97, 99, 107] : List UInt8).length = 5 := rfl
  omega
theorem head_len {x : GSession} (h : SourcesOk x.fSources) (hg : I64 x.fLength) (hs : ∀ l ∈ x.fSources, ∀ y ∈ l, I64 y) : (headL x).length ≤ 528072 := by
  unfold headL
  rw [List.length_append, line_len]
  have h1 := word_len (p := [115, 101, 115, 115, 105, 111, 110]) (l := [x.fLength]) (c := 1) (by intro n hn'; obtain rfl := List.mem_singleton.1 hn'; exact hg) (Nat.le_refl _)
  have h2 := flat_le (f := fun s => lineL (wrdL [115, 111, 117, 114, 99, 101] s)) (c := 88007) (xs := x.fSources) (fun l hl => by
    obtain ⟨i, hi⟩ := List.getElem?_of_mem hl
    have e := h.each i l hi
    have e2 : l.length ≤ 4000 := by unfold sigB at e; simp only [Bool.and_eq_true, decide_eq_true_eq] at e; exact e.1
    have := word_len (p := [115, 111, 117, 114, 99, 101]) (l := l) (c := 4000) (hs l hl) e2
    have : ([115, 111, 117, 114, 99, 101] : List UInt8).length = 6 := rfl
    rw [line_len]; omega)
  have := Nat.mul_le_mul_right 88007 h.few
  have : ([115, 101, 115, 115, 105, 111, 110] : List UInt8).length = 7 := rfl
  omega
theorem str_len {e : ByteArray × GPatch} (h : EffectOk e.2) (hg : e.2.good) (hl : e.1.size ≤ 1608) : (strL e).length ≤ 61615 := by
  unfold strL
  simp only [List.length_append]
  have := eff_len h hg
  have e1 : e.1.data.toList.length = e.1.size := Array.length_toList
  have : ([115, 116, 114, 105, 112, 32] : List UInt8).length = 6 := rfl
  have : ([10] : List UInt8).length = 1 := rfl
  omega
theorem ses_parts {x : GSession} (h : SessionOk x) (hg : x.good) : (headL x).length ≤ 528072 ∧ ((x.fTracks.zip x.fFeeds).flatMap trackL).length ≤ 8448 ∧ (((linesF (mkS (mixL x.fMixer))).zip x.fEffects).flatMap strL).length ≤ 492920 := by
  obtain ⟨g0, g1, g2, g3, g4, g5⟩ := hg
  refine ⟨head_len h.sources g0 g1, ?_, ?_⟩
  · have := flat_le (f := trackL) (c := 1408) (xs := x.fTracks.zip x.fFeeds) (fun t ht => by
      obtain ⟨h1, h2⟩ := List.of_mem_zip ht
      obtain ⟨i, hi⟩ := List.getElem?_of_mem h1
      exact track_len (h.tracks i _ hi).1 (g2 _ h1) (g3 _ h2))
    have h2 : (x.fTracks.zip x.fFeeds).length ≤ 6 := by rw [List.length_zip]; have := h.few; omega
    have := Nat.mul_le_mul_right 1408 h2
    omega
  · have hm := mix_len h.mixer g5
    have := flat_le (f := strL) (c := 61615) (xs := (linesF (mkS (mixL x.fMixer))).zip x.fEffects) (fun t ht => by
      obtain ⟨h1, h2⟩ := List.of_mem_zip ht
      obtain ⟨i, hi⟩ := List.getElem?_of_mem h2
      exact str_len (h.effects i _ hi) (g4 _ h2) (by have := line_le h1; rw [size_mkS] at this; omega))
    have h2 : ((linesF (mkS (mixL x.fMixer))).zip x.fEffects).length ≤ 8 := by rw [List.length_zip, mix_lines h.mixer]; have := h.mixer.few; omega
    have := Nat.mul_le_mul_right 61615 h2
    omega
end Go.Proofs.YteiflbhcehajkaaGreatDoor
end
section
namespace Go.Proofs.YteiflbhcehajkaaGreatDoor
open Go.RowKit
end Go.Proofs.YteiflbhcehajkaaGreatDoor
end
section
namespace Go.Proofs.YteiflbhcehajkaaGreatDoor
open Go.RowKit
set_option maxHeartbeats 400000 in
theorem c_size (v : Value) (xs : List Int) (w : World) (hr : RdI w v xs) : Calls Tryz.prog 47 #[v] w fun e w' => e = .returned (.int .i64 (xs.length : Int)) ∧ w = w' := by
  obtain ⟨A, cap, rfl, hl, hc, hx⟩ := hr.open_
  clear hx hr
  go_enter Tryz.func47, Tryz.ntmps47
  go_wp2
  go_ret
  exact ⟨rfl, rfl⟩
end Go.Proofs.YteiflbhcehajkaaGreatDoor
end
section
namespace Go.Proofs.YteiflbhcehajkaaGreatDoor
open Go.RowKit
end Go.Proofs.YteiflbhcehajkaaGreatDoor
end
