/- What valid sessions and caches are, in plain words. -/
import Derived.Test.YtfifcnojkjjnkaaGreatNg
import Derived.Test.YtfifcnojkjjnkaaGreatPl
namespace Go.Proofs.YtfifcnojkjjnkaaGreat
open Go.RowKit
noncomputable def tf (p : Prop) : Bool := @decide p (Classical.propDecidable p)
theorem tf_yes {p : Prop} (h : p) : tf p = true := by unfold tf; exact @decide_eq_true p (Classical.propDecidable p) h
theorem tf_no {p : Prop} (h : ¬ p) : tf p = false := by unfold tf; exact @decide_eq_false p (Classical.propDecidable p) h
theorem tf_iff {p q : Prop} (h : p ↔ q) : tf p = tf q := by rw [propext h]
theorem tf_true {p : Prop} : tf p = true ↔ p := by
  constructor
  · intro e
    apply Classical.byContradiction
    intro h
    rw [tf_no h] at e
    exact absurd e (by simp)
  · exact tf_yes
theorem tf_false {p : Prop} : tf p = false ↔ ¬ p := by
  constructor
  · intro e h
    rw [tf_yes h] at e
    exact absurd e (by simp)
  · exact tf_no
theorem tf_dec {p : Prop} [d : Decidable p] : tf p = decide p := by
  by_cases h : p
  · rw [tf_yes h, decide_eq_true h]
  · rw [tf_no h, decide_eq_false h]
theorem tf_or {p q : Prop} : (tf p || tf q) = tf (p ∨ q) := by
  rw [Bool.eq_iff_iff]; simp [tf_true]
theorem tf_and {p q : Prop} : (tf p && tf q) = tf (p ∧ q) := by
  rw [Bool.eq_iff_iff]; simp [tf_true]
/-- The first k elements are right; all are. -/
def Upto {α : Type} (xs : List α) (Q : Nat → α → Prop) (k : Nat) : Prop := ∀ i x, i < k → xs[i]? = some x → Q i x
def Each {α : Type} (xs : List α) (Q : Nat → α → Prop) : Prop := ∀ i x, xs[i]? = some x → Q i x
section
variable {α : Type} {xs : List α} {Q : Nat → α → Prop} {k : Nat} {x : α}
theorem Upto.zero : Upto xs Q 0 := fun i _ h => absurd h (Nat.not_lt_zero i)
theorem Upto.step (h : Upto xs Q k) (hx : xs[k]? = some x) (q : Q k x) : Upto xs Q (k + 1) := by
  intro i y hi hy
  by_cases e : i = k
  · subst e
    rw [hx] at hy
    injection hy with hy
    subst hy
    exact q
  · exact h i y (by omega) hy
theorem Upto.all (h : Upto xs Q k) (hk : xs.length ≤ k) : Each xs Q := fun i y hy => h i y (Nat.lt_of_lt_of_le (List.getElem?_eq_some_iff.1 hy).1 hk) hy
theorem Each.not (hx : xs[k]? = some x) (q : ¬ Q k x) : ¬ Each xs Q := fun h => q (h k x hx)
theorem Each.of_mem {P : α → Prop} : Each xs (fun _ y => P y) ↔ ∀ y ∈ xs, P y := by
  constructor
  · intro h y hy
    obtain ⟨i, hi, rfl⟩ := List.mem_iff_getElem.1 hy
    exact h i _ (List.getElem?_eq_getElem hi)
  · intro h i y hy
    exact h y (List.mem_of_getElem? hy)
end
/-- Numbers from 0 on and below n. -/
def Idx (l : List Int) (n : Int) : Prop := Each l fun _ x => 0 ≤ x ∧ x ≤ n - 1
structure ClipOk (c : GClip) : Prop where
  source : inB c.fSource 0 5 = true
  length : inB c.fLength 1 4000 = true
  from_ : inB c.fFrom 0 (4000 - c.fLength) = true
  at_ : inB c.fAt 0 (4000 - c.fLength) = true
  gain : Smp c.fGain
structure TrackOk (t : GTrack) : Prop where
  clips : Each t.fClips fun i c => ClipOk c ∧ ∀ p, 0 < i → t.fClips[i - 1]? = some p → p.fAt ≤ c.fAt
  few : t.fClips.length ≤ 12
def befS (l : List GSend) (strip : Int) (i : Nat) : Int := if i = 0 then strip else (l.getD (i - 1) ⟨0, 0⟩).fTo
structure SendsOk (l : List GSend) (strip n : Int) : Prop where
  each : Each l fun i x => inB x.fTo (befS l strip i + 1) (n - 1) = true ∧ Smp x.fGain
  last : strip = n - 1 → l.length = 0
  few : strip ≠ n - 1 → 1 ≤ l.length ∧ l.length ≤ 4
def smallN (c : Nat) : Prop := 97 ≤ c ∧ c ≤ 122
def digitN (c : Nat) : Prop := 48 ≤ c ∧ c ≤ 57
structure NameOk (s : ByteArray) : Prop where
  some_ : 1 ≤ s.size
  few : s.size ≤ 10
  each : ∀ i, i < s.size → smallN (bA s i) ∨ (digitN (bA s i) ∧ i ≠ 0)
structure StripOk (x : GStrip) (i n : Int) : Prop where
  name : NameOk x.fName
  latency : inB x.fLatency 0 32 = true
  sends : SendsOk x.fSends i n
structure MixerOk (m : GMixer) : Prop where
  some_ : 1 ≤ m.fStrips.length
  few : m.fStrips.length ≤ 8
  each : Each m.fStrips fun i x => StripOk x (i : Int) (m.fStrips.length : Int) ∧ ∀ j y, j < i → m.fStrips[j]? = some y → y.fName ≠ x.fName
structure SourcesOk (ss : List (List Int)) : Prop where
  each : Each ss fun _ l => sigB l = true
  few : ss.length ≤ 6
structure TablesOk (ts : List (List Int)) : Prop where
  each : Each ts fun _ t => (t.length = 2 ∨ t.length = 4 ∨ t.length = 8 ∨ t.length = 16) ∧ smpB t = true
  few : ts.length ≤ 4
/-- What is known of a kind of nodes: its inputs, the range of A (none if the first is greater), whether it has B. -/
structure Knd where
  inputs : Int
  low : Int
  high : Int
  linear : Bool
  hasB : Bool
def kndL : List Knd := [⟨0, 0, 3, true, false⟩, ⟨0, -2147483648, 2147483647, false, false⟩, ⟨2, 1, 0, true, false⟩, ⟨2, 1, 0, true, false⟩, ⟨1, -2147483648, 2147483647, true, false⟩, ⟨1, 1, 16, true, false⟩, ⟨1, 1, 0, true, false⟩, ⟨1, 1, 0, true, false⟩, ⟨2, 1, 0, false, false⟩, ⟨1, 0, 31, false, false⟩, ⟨1, 0, 2147483647, false, false⟩, ⟨1, -2147483648, 2147483647, false, false⟩, ⟨1, 0, 3, false, false⟩, ⟨0, -2147483648, 2147483647, false, false⟩, ⟨3, 1, 0, false, false⟩, ⟨2, 1, 0, false, false⟩, ⟨1, -2147483648, 2147483647, true, true⟩]
def kndF (k : Int) : Knd := kndL.getD (k - 1).toNat ⟨0, 0, 0, false, false⟩
structure NodeOk (x : GNode) (tables : Int) : Prop where
  kind : inB x.fKind 1 17 = true
  a : if (kndF x.fKind).low ≤ (kndF x.fKind).high then inB x.fA (kndF x.fKind).low (kndF x.fKind).high = true else x.fA = 0
  b : if (kndF x.fKind).hasB then inB x.fB 1 16 = true else x.fB = 0
  from_ : Each x.fFrom fun _ f => inB f 0 23 = true
  arity : (x.fFrom.length : Int) = (kndF x.fKind).inputs
  table : x.fKind = 13 → x.fA < tables
structure FormedOk (p : GPatch) : Prop where
  inputs : inB p.fInputs 0 4 = true
  tables : TablesOk p.fTables
  few : p.fNodes.length ≤ 24
  outs : p.fOutputs.length ≤ 4
  outputs : Idx p.fOutputs (p.fNodes.length : Int)
  nodes : Each p.fNodes fun _ x => NodeOk x (p.fTables.length : Int) ∧ Idx x.fFrom (p.fNodes.length : Int) ∧ (x.fKind = 1 → x.fA < p.fInputs)
/-- The nodes that a node waits for. -/
def waitsF (x : GNode) : List Int := if x.fKind = 6 then [] else x.fFrom
def readyB (nodes : List GNode) (out : List Int) (i : Nat) : Bool := !out.contains (i : Int) && ((nodes[i]?).map fun x => (waitsF x).all fun f => out.contains f).getD false
def nextF (nodes : List GNode) (out : List Int) : Option Nat := (List.range nodes.length).find? (readyB nodes out)
/-- The order in which nodes are computed: the first steps. -/
def ordNodes (nodes : List GNode) : Nat → List Int
  | 0 => []
  | k + 1 => match nextF nodes (ordNodes nodes k) with
    | some i => ordNodes nodes k ++ [(i : Int)]
    | none => ordNodes nodes k
def orderF (nodes : List GNode) : List Int := ordNodes nodes nodes.length
theorem ordNodes_stop {nodes : List GNode} {k : Nat} (h : nextF nodes (ordNodes nodes k) = none) : ∀ m, ordNodes nodes (k + m) = ordNodes nodes k := by
  intro m
  induction m with
  | zero => rfl
  | succ m ih =>
    rw [← Nat.add_assoc]
    simp only [ordNodes]
    rw [ih, h]
theorem ordNodes_len {nodes : List GNode} : ∀ k, (ordNodes nodes k).length ≤ k
  | 0 => Nat.le_refl _
  | k + 1 => by
    have ih := ordNodes_len (nodes := nodes) k
    simp only [ordNodes]
    split
    · simp; omega
    · omega
theorem nextF_some {nodes : List GNode} {out : List Int} {i : Nat} (hi : i < nodes.length) (hr : readyB nodes out i = true) (hb : ∀ j, j < i → readyB nodes out j = false) : nextF nodes out = some i := by
  unfold nextF
  rw [List.find?_eq_some_iff_getElem]
  refine ⟨hr, i, by simpa using hi, by simp, fun j hj => by simp [hb j hj]⟩
theorem nextF_none {nodes : List GNode} {out : List Int} (hb : ∀ j, j < nodes.length → readyB nodes out j = false) : nextF nodes out = none := by
  unfold nextF
  rw [List.find?_eq_none]
  intro j hj
  simp [hb j (by simpa using hj)]
theorem nextF_inv {nodes : List GNode} {out : List Int} {i : Nat} (h : nextF nodes out = some i) : i < nodes.length ∧ readyB nodes out i = true := by
  unfold nextF at h
  exact ⟨by simpa using List.mem_of_find?_eq_some h, List.find?_some h⟩
theorem ordNodes_in {nodes : List GNode} : ∀ k, (ordNodes nodes k).Nodup ∧ ∀ x ∈ ordNodes nodes k, 0 ≤ x ∧ x < (nodes.length : Int)
  | 0 => by simp [ordNodes]
  | k + 1 => by
    obtain ⟨h1, h2⟩ := ordNodes_in (nodes := nodes) k
    simp only [ordNodes]
    split
    · next i h =>
      obtain ⟨hi, hr⟩ := nextF_inv h
      have hn : (i : Int) ∉ ordNodes nodes k := by
        simp only [readyB, Bool.and_eq_true, Bool.not_eq_true'] at hr
        simpa using hr.1
      refine ⟨?_, ?_⟩
      · rw [List.nodup_append]
        refine ⟨h1, by simp, fun a ha b hb e => ?_⟩
        simp at hb
        subst hb e
        exact hn ha
      · intro x hx
        rcases List.mem_append.1 hx with hx | hx
        · exact h2 x hx
        · simp at hx; subst hx; omega
    · exact ⟨h1, h2⟩
theorem nodup_range : ∀ (n : Nat) (l : List Nat), l.Nodup → (∀ x ∈ l, x < n) → l.length ≤ n
  | 0, [], _, _ => Nat.le_refl _
  | 0, x :: _, _, h => absurd (h x (by simp)) (by omega)
  | n + 1, l, h1, h2 => by
    by_cases hm : n ∈ l
    · have h3 := nodup_range n (l.erase n) (h1.erase n) (fun x hx => by
        have := (h1.mem_erase_iff).1 hx
        have h4 := h2 x this.2
        have h5 := this.1
        omega)
      rw [List.length_erase_of_mem hm] at h3
      omega
    · have h3 := nodup_range n l h1 (fun x hx => by
        have h4 := h2 x hx
        have : x ≠ n := fun e => hm (e ▸ hx)
        omega)
      omega
theorem nodup_bound {n : Nat} {l : List Int} (h1 : l.Nodup) (h2 : ∀ x ∈ l, 0 ≤ x ∧ x < (n : Int)) : l.length ≤ n := by
  have h3 : (l.map Int.toNat).Nodup := by
    rw [List.Nodup, List.pairwise_map]
    refine List.Pairwise.imp_of_mem ?_ h1
    intro a b ha hb hab e
    have := h2 a ha
    have := h2 b hb
    omega
  have := nodup_range n _ h3 (fun x hx => by
    obtain ⟨y, hy, rfl⟩ := List.mem_map.1 hx
    have := h2 y hy
    omega)
  simpa using this
theorem ordNodes_cap {nodes : List GNode} (k : Nat) : (ordNodes nodes k).length ≤ nodes.length := nodup_bound (ordNodes_in k).1 (ordNodes_in k).2
/-- Where the order stops, it has stopped for good. -/
theorem orderF_of_stop {nodes : List GNode} {k : Nat} (h : nextF nodes (ordNodes nodes k) = none) (hk : (ordNodes nodes k).length = k) : orderF nodes = ordNodes nodes k := by
  have hc := ordNodes_cap (nodes := nodes) k
  unfold orderF
  rw [show nodes.length = k + (nodes.length - k) by omega]
  exact ordNodes_stop h _
theorem ordNodes_snoc {nodes : List GNode} {k i : Nat} (h : nextF nodes (ordNodes nodes k) = some i) : ordNodes nodes (k + 1) = ordNodes nodes k ++ [(i : Int)] := by
  simp only [ordNodes, h]
/-- A full order leaves nothing that is ready. -/
theorem nextF_full {nodes : List GNode} {k : Nat} (hk : (ordNodes nodes k).length = nodes.length) : nextF nodes (ordNodes nodes k) = none := by
  cases h : nextF nodes (ordNodes nodes k) with
  | none => rfl
  | some i =>
    have h1 := ordNodes_cap (nodes := nodes) (k + 1)
    rw [ordNodes_snoc h] at h1
    simp at h1
    omega
structure PatchOk (p : GPatch) : Prop where
  formed : FormedOk p
  order : (orderF p.fNodes).length = p.fNodes.length
def noPatch : GPatch := ⟨0, [], [], []⟩
def EffectOk (p : GPatch) : Prop := p = noPatch ∨ (PatchOk p ∧ p.fInputs = 1 ∧ p.fOutputs.length = 1)
structure SessionOk (s : GSession) : Prop where
  length : inB s.fLength 0 1000 = true
  sources : SourcesOk s.fSources
  few : s.fTracks.length ≤ 6
  mixer : MixerOk s.fMixer
  feed : s.fFeeds.length = s.fTracks.length
  feeds : Idx s.fFeeds (s.fMixer.fStrips.length : Int)
  effect : s.fEffects.length = s.fMixer.fStrips.length
  tracks : Each s.fTracks fun _ t => TrackOk t ∧ Each t.fClips fun _ c => c.fSource < (s.fSources.length : Int)
  effects : Each s.fEffects fun _ p => EffectOk p
def blocksF (n : Int) : Int := (n + 15) / 16
structure CacheOk (c : GCache) : Prop where
  session : SessionOk c.fSession
  length : (c.fMix.length : Int) = c.fSession.fLength
  mix : smpB c.fMix = true
  dirty : Each c.fDirty fun i b => (0 ≤ b ∧ b ≤ blocksF c.fSession.fLength - 1) ∧ ∀ p, 0 < i → c.fDirty[i - 1]? = some p → p < b
end Go.Proofs.YtfifcnojkjjnkaaGreat
