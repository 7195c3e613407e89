/- What valid sessions and caches are, in plain words. Edits, in plain words. Edits taken back, in plain words. Laws for data that a call lays anew: blocks in order, elements stored one by one. No program is named here. -/
import Derived.Test.YtgmgjhdckepmmaaGreatQAbExactApplyEdits
import Derived.Test.YtgmgjhdckepmmaaGreatQAaExactApplyEdits
set_option linter.unusedVariables false
set_option linter.unusedSimpArgs false
section
namespace Go.Proofs.YtgmgjhdckepmmaaGreat
open Go.RowKit
noncomputable def tf (p : Prop) : Bool := @decide p (Classical.propDecidable p)
theorem tf_yes {p : Prop} (h : p) : tf p = true := by unfold tf; exact @decide_eq_true p (Classical.propDecidable p) h
theorem tf_no {p : Prop} (h : ¬ p) : tf p = false := by unfold tf; exact @decide_eq_false p (Classical.propDecidable p) h
theorem tf_iff {p q : Prop} (h : p ↔ q) : tf p = tf q := by rw [propext h]
theorem tf_true {p : Prop} : tf p = true ↔ p := by
  constructor
  · intro e
    apply Classical.byContradiction
    intro h
    rw [tf_no h] at e
    exact absurd e (by simp)
  · exact tf_yes
theorem tf_dec {p : Prop} [d : Decidable p] : tf p = decide p := by
  by_cases h : p
  · rw [tf_yes h, decide_eq_true h]
  · rw [tf_no h, decide_eq_false h]
theorem tf_and {p q : Prop} : (tf p && tf q) = tf (p ∧ q) := by
  rw [Bool.eq_iff_iff]; simp [tf_true]
/-- The first k elements are right; all are. -/
def Upto {α : Type} (xs : List α) (Q : Nat → α → Prop) (k : Nat) : Prop := ∀ i x, i < k → xs[i]? = some x → Q i x
def Each {α : Type} (xs : List α) (Q : Nat → α → Prop) : Prop := ∀ i x, xs[i]? = some x → Q i x
section
variable {α : Type} {xs : List α} {Q : Nat → α → Prop} {k : Nat} {x : α}
theorem Upto.zero : Upto xs Q 0 := fun i _ h => absurd h (Nat.not_lt_zero i)
theorem Upto.step (h : Upto xs Q k) (hx : xs[k]? = some x) (q : Q k x) : Upto xs Q (k + 1) := by
  intro i y hi hy
  by_cases e : i = k
  · subst e
    rw [hx] at hy
    injection hy with hy
    subst hy
    exact q
  · exact h i y (by omega) hy
theorem Upto.all (h : Upto xs Q k) (hk : xs.length ≤ k) : Each xs Q := fun i y hy => h i y (Nat.lt_of_lt_of_le (List.getElem?_eq_some_iff.1 hy).1 hk) hy
theorem Each.of_mem {P : α → Prop} : Each xs (fun _ y => P y) ↔ ∀ y ∈ xs, P y := by
  constructor
  · intro h y hy
    obtain ⟨i, hi, rfl⟩ := List.mem_iff_getElem.1 hy
    exact h i _ (List.getElem?_eq_getElem hi)
  · intro h i y hy
    exact h y (List.mem_of_getElem? hy)
end
/-- Numbers from 0 on and below n. -/
def Idx (l : List Int) (n : Int) : Prop := Each l fun _ x => 0 ≤ x ∧ x ≤ n - 1
structure ClipOk (c : GClip) : Prop where
  source : inB c.fSource 0 5 = true
  length : inB c.fLength 1 4000 = true
  from_ : inB c.fFrom 0 (4000 - c.fLength) = true
  at_ : inB c.fAt 0 (4000 - c.fLength) = true
  gain : Smp c.fGain
structure TrackOk (t : GTrack) : Prop where
  clips : Each t.fClips fun i c => ClipOk c ∧ ∀ p, 0 < i → t.fClips[i - 1]? = some p → p.fAt ≤ c.fAt
  few : t.fClips.length ≤ 12
def befS (l : List GSend) (strip : Int) (i : Nat) : Int := if i = 0 then strip else (l.getD (i - 1) ⟨0, 0⟩).fTo
structure SendsOk (l : List GSend) (strip n : Int) : Prop where
  each : Each l fun i x => inB x.fTo (befS l strip i + 1) (n - 1) = true ∧ Smp x.fGain
  last : strip = n - 1 → l.length = 0
  few : strip ≠ n - 1 → 1 ≤ l.length ∧ l.length ≤ 4
def smallN (c : Nat) : Prop := 97 ≤ c ∧ c ≤ 122
def digitN (c : Nat) : Prop := 48 ≤ c ∧ c ≤ 57
structure NameOk (s : ByteArray) : Prop where
  some_ : 1 ≤ s.size
  few : s.size ≤ 10
  each : ∀ i, i < s.size → smallN (bA s i) ∨ (digitN (bA s i) ∧ i ≠ 0)
structure StripOk (x : GStrip) (i n : Int) : Prop where
  name : NameOk x.fName
  latency : inB x.fLatency 0 32 = true
  sends : SendsOk x.fSends i n
structure MixerOk (m : GMixer) : Prop where
  some_ : 1 ≤ m.fStrips.length
  few : m.fStrips.length ≤ 8
  each : Each m.fStrips fun i x => StripOk x (i : Int) (m.fStrips.length : Int) ∧ ∀ j y, j < i → m.fStrips[j]? = some y → y.fName ≠ x.fName
structure SourcesOk (ss : List (List Int)) : Prop where
  each : Each ss fun _ l => sigB l = true
  few : ss.length ≤ 6
structure TablesOk (ts : List (List Int)) : Prop where
  each : Each ts fun _ t => (t.length = 2 ∨ t.length = 4 ∨ t.length = 8 ∨ t.length = 16) ∧ smpB t = true
  few : ts.length ≤ 4
/-- What is known of a kind of nodes: its inputs, the range of A (none if the first is greater), whether it has B. -/
structure Knd where
  inputs : Int
  low : Int
  high : Int
  linear : Bool
  hasB : Bool
def kndL : List Knd := [⟨0, 0, 3, true, false⟩, ⟨0, -2147483648, 2147483647, false, false⟩, ⟨2, 1, 0, true, false⟩, ⟨2, 1, 0, true, false⟩, ⟨1, -2147483648, 2147483647, true, false⟩, ⟨1, 1, 16, true, false⟩, ⟨1, 1, 0, true, false⟩, ⟨1, 1, 0, true, false⟩, ⟨2, 1, 0, false, false⟩, ⟨1, 0, 31, false, false⟩, ⟨1, 0, 2147483647, false, false⟩, ⟨1, -2147483648, 2147483647, false, false⟩, ⟨1, 0, 3, false, false⟩, ⟨0, -2147483648, 2147483647, false, false⟩, ⟨3, 1, 0, false, false⟩, ⟨2, 1, 0, false, false⟩, ⟨1, -2147483648, 2147483647, true, true⟩]
def kndF (k : Int) : Knd := kndL.getD (k - 1).toNat ⟨0, 0, 0, false, false⟩
structure NodeOk (x : GNode) (tables : Int) : Prop where
  kind : inB x.fKind 1 17 = true
  a : if (kndF x.fKind).low ≤ (kndF x.fKind).high then inB x.fA (kndF x.fKind).low (kndF x.fKind).high = true else x.fA = 0
  b : if (kndF x.fKind).hasB then inB x.fB 1 16 = true else x.fB = 0
  from_ : Each x.fFrom fun _ f => inB f 0 23 = true
  arity : (x.fFrom.length : Int) = (kndF x.fKind).inputs
  table : x.fKind = 13 → x.fA < tables
structure FormedOk (p : GPatch) : Prop where
  inputs : inB p.fInputs 0 4 = true
  tables : TablesOk p.fTables
  few : p.fNodes.length ≤ 24
  outs : p.fOutputs.length ≤ 4
  outputs : Idx p.fOutputs (p.fNodes.length : Int)
  nodes : Each p.fNodes fun _ x => NodeOk x (p.fTables.length : Int) ∧ Idx x.fFrom (p.fNodes.length : Int) ∧ (x.fKind = 1 → x.fA < p.fInputs)
/-- The nodes that a node waits for. -/
def waitsF (x : GNode) : List Int := if x.fKind = 6 then [] else x.fFrom
def readyB (nodes : List GNode) (out : List Int) (i : Nat) : Bool := !out.contains (i : Int) && ((nodes[i]?).map fun x => (waitsF x).all fun f => out.contains f).getD false
def nextF (nodes : List GNode) (out : List Int) : Option Nat := (List.range nodes.length).find? (readyB nodes out)
/-- The order in which nodes are computed: the first steps. -/
def ordNodes (nodes : List GNode) : Nat → List Int
  | 0 => []
  | k + 1 => match nextF nodes (ordNodes nodes k) with
    | some i => ordNodes nodes k ++ [(i : Int)]
    | none => ordNodes nodes k
def orderF (nodes : List GNode) : List Int := ordNodes nodes nodes.length
theorem ordNodes_stop {nodes : List GNode} {k : Nat} (h : nextF nodes (ordNodes nodes k) = none) : ∀ m, ordNodes nodes (k + m) = ordNodes nodes k := by
  intro m
  induction m with
  | zero => rfl
  | succ m ih =>
    rw [← Nat.add_assoc]
    simp only [ordNodes]
    rw [ih, h]
theorem nextF_some {nodes : List GNode} {out : List Int} {i : Nat} (hi : i < nodes.length) (hr : readyB nodes out i = true) (hb : ∀ j, j < i → readyB nodes out j = false) : nextF nodes out = some i := by
  unfold nextF
  rw [List.find?_eq_some_iff_getElem]
  refine ⟨hr, i, by simpa using hi, by simp, fun j hj => by simp [hb j hj]⟩
theorem nextF_none {nodes : List GNode} {out : List Int} (hb : ∀ j, j < nodes.length → readyB nodes out j = false) : nextF nodes out = none := by
  unfold nextF
  rw [List.find?_eq_none]
  intro j hj
  simp [hb j (by simpa using hj)]
theorem nextF_inv {nodes : List GNode} {out : List Int} {i : Nat} (h : nextF nodes out = some i) : i < nodes.length ∧ readyB nodes out i = true := by
  unfold nextF at h
  exact ⟨by simpa using List.mem_of_find?_eq_some h, List.find?_some h⟩
theorem ordNodes_in {nodes : List GNode} : ∀ k, (ordNodes nodes k).Nodup ∧ ∀ x ∈ ordNodes nodes k, 0 ≤ x ∧ x < (nodes.length : Int)
  | 0 => by simp [ordNodes]
  | k + 1 => by
    obtain ⟨h1, h2⟩ := ordNodes_in (nodes := nodes) k
    simp only [ordNodes]
    split
    · next i h =>
      obtain ⟨hi, hr⟩ := nextF_inv h
      have hn : (i : Int) ∉ ordNodes nodes k := by
        simp only [readyB, Bool.and_eq_true, Bool.not_eq_true'] at hr
        simpa using hr.1
      refine ⟨?_, ?_⟩
      · rw [List.nodup_append]
        refine ⟨h1, by simp, fun a ha b hb e => ?_⟩
        simp at hb
        subst hb e
        exact hn ha
      · intro x hx
        rcases List.mem_append.1 hx with hx | hx
        · exact h2 x hx
        · simp at hx; subst hx; omega
    · exact ⟨h1, h2⟩
theorem nodup_range : ∀ (n : Nat) (l : List Nat), l.Nodup → (∀ x ∈ l, x < n) → l.length ≤ n
  | 0, [], _, _ => Nat.le_refl _
  | 0, x :: _, _, h => absurd (h x (by simp)) (by omega)
  | n + 1, l, h1, h2 => by
    by_cases hm : n ∈ l
    · have h3 := nodup_range n (l.erase n) (h1.erase n) (fun x hx => by
        have := (h1.mem_erase_iff).1 hx
        have h4 := h2 x this.2
        have h5 := this.1
        omega)
      rw [List.length_erase_of_mem hm] at h3
      omega
    · have h3 := nodup_range n l h1 (fun x hx => by
        have h4 := h2 x hx
        have : x ≠ n := fun e => hm (e ▸ hx)
        omega)
      omega
theorem nodup_bound {n : Nat} {l : List Int} (h1 : l.Nodup) (h2 : ∀ x ∈ l, 0 ≤ x ∧ x < (n : Int)) : l.length ≤ n := by
  have h3 : (l.map Int.toNat).Nodup := by
    rw [List.Nodup, List.pairwise_map]
    refine List.Pairwise.imp_of_mem ?_ h1
    intro a b ha hb hab e
    have := h2 a ha
    have := h2 b hb
    omega
  have := nodup_range n _ h3 (fun x hx => by
    obtain ⟨y, hy, rfl⟩ := List.mem_map.1 hx
    have := h2 y hy
    omega)
  simpa using this
theorem ordNodes_cap {nodes : List GNode} (k : Nat) : (ordNodes nodes k).length ≤ nodes.length := nodup_bound (ordNodes_in k).1 (ordNodes_in k).2
/-- Where the order stops, it has stopped for good. -/
theorem orderF_of_stop {nodes : List GNode} {k : Nat} (h : nextF nodes (ordNodes nodes k) = none) (hk : (ordNodes nodes k).length = k) : orderF nodes = ordNodes nodes k := by
  have hc := ordNodes_cap (nodes := nodes) k
  unfold orderF
  rw [show nodes.length = k + (nodes.length - k) by omega]
  exact ordNodes_stop h _
theorem ordNodes_snoc {nodes : List GNode} {k i : Nat} (h : nextF nodes (ordNodes nodes k) = some i) : ordNodes nodes (k + 1) = ordNodes nodes k ++ [(i : Int)] := by
  simp only [ordNodes, h]
structure PatchOk (p : GPatch) : Prop where
  formed : FormedOk p
  order : (orderF p.fNodes).length = p.fNodes.length
def noPatch : GPatch := ⟨0, [], [], []⟩
def EffectOk (p : GPatch) : Prop := p = noPatch ∨ (PatchOk p ∧ p.fInputs = 1 ∧ p.fOutputs.length = 1)
structure SessionOk (s : GSession) : Prop where
  length : inB s.fLength 0 1000 = true
  sources : SourcesOk s.fSources
  few : s.fTracks.length ≤ 6
  mixer : MixerOk s.fMixer
  feed : s.fFeeds.length = s.fTracks.length
  feeds : Idx s.fFeeds (s.fMixer.fStrips.length : Int)
  effect : s.fEffects.length = s.fMixer.fStrips.length
  tracks : Each s.fTracks fun _ t => TrackOk t ∧ Each t.fClips fun _ c => c.fSource < (s.fSources.length : Int)
  effects : Each s.fEffects fun _ p => EffectOk p
end Go.Proofs.YtgmgjhdckepmmaaGreat
end
section
namespace Go.Proofs.YtgmgjhdckepmmaaGreat
open Go.RowKit
def noClip : GClip := ⟨0, 0, 0, 0, 0⟩
def noSession : GSession := ⟨0, [], [], [], [], ⟨[]⟩⟩
def FieldsOk (e : GEdit) : Prop :=
  if e.fKind = 1 ∨ e.fKind = 3 then e.fValue = 0 ∧ ClipOk e.fNew
  else if e.fKind = 2 then e.fValue = 0 ∧ e.fNew = noClip
  else if e.fKind = 4 then e.fClip = 0 ∧ e.fNew = noClip
  else if e.fKind = 5 then e.fNew = noClip
  else False
def clipsAt (s : GSession) (t : Int) : List GClip := ((s.fTracks[t.toNat]?).map GTrack.fClips).getD []
def sendsAt (s : GSession) (t : Int) : List GSend := ((s.fMixer.fStrips[t.toNat]?).map GStrip.fSends).getD []
theorem clipsAt_of {s : GSession} {k : Nat} {x : GTrack} (h : s.fTracks[k]? = some x) : clipsAt s (k : Int) = x.fClips := by
  unfold clipsAt; rw [Int.toNat_natCast, h]; rfl
theorem sendsAt_of {s : GSession} {k : Nat} {x : GStrip} (h : s.fMixer.fStrips[k]? = some x) : sendsAt s (k : Int) = x.fSends := by
  unfold sendsAt; rw [Int.toNat_natCast, h]; rfl
def RangeOk (s : GSession) (e : GEdit) : Prop :=
  if e.fKind = 5 then inB e.fTrack 0 ((s.fMixer.fStrips.length : Int) - 1) = true ∧ inB e.fClip 0 (((sendsAt s e.fTrack).length : Int) - 1) = true ∧ Smp e.fValue
  else inB e.fTrack 0 ((s.fTracks.length : Int) - 1) = true ∧
    (if e.fKind = 1 then inB e.fClip 0 ((clipsAt s e.fTrack).length : Int) = true ∧ e.fNew.fSource < (s.fSources.length : Int)
    else if e.fKind = 3 then inB e.fClip 0 (((clipsAt s e.fTrack).length : Int) - 1) = true ∧ e.fNew.fSource < (s.fSources.length : Int)
    else if e.fKind = 2 then inB e.fClip 0 (((clipsAt s e.fTrack).length : Int) - 1) = true
    else inB e.fValue 0 ((s.fMixer.fStrips.length : Int) - 1) = true)
def editL (l : List GClip) (e : GEdit) : List GClip :=
  if e.fKind = 1 then l.take e.fClip.toNat ++ e.fNew :: l.drop e.fClip.toNat
  else if e.fKind = 2 then l.take e.fClip.toNat ++ l.drop (e.fClip.toNat + 1)
  else l.take e.fClip.toNat ++ e.fNew :: l.drop (e.fClip.toNat + 1)
def turnAt {α : Type} (l : List α) (k : Nat) (f : α → α) : List α := match l[k]? with | some x => l.set k (f x) | none => l
theorem turnAt_of {α : Type} {l : List α} {k : Nat} {f : α → α} {x : α} (h : l[k]? = some x) : turnAt l k f = l.set k (f x) := by unfold turnAt; rw [h]
theorem length_turnAt {α : Type} (l : List α) (k : Nat) (f : α → α) : (turnAt l k f).length = l.length := by
  unfold turnAt
  split <;> simp
theorem turnAt_get {α : Type} {l : List α} {k : Nat} {f : α → α} {i : Nat} : (turnAt l k f)[i]? = (l[i]?).map (fun x => if i = k then f x else x) := by
  unfold turnAt
  split
  · next x h =>
    by_cases e : i = k
    · subst e
      rw [List.getElem?_set_self (List.getElem?_eq_some_iff.1 h).1, h]; simp
    · rw [List.getElem?_set_ne (fun h => e h.symm)]
      cases l[i]? <;> simp [e]
  · next h =>
    by_cases e : i = k
    · subst e; rw [h]; rfl
    · cases l[i]? <;> simp [e]
def doE (s : GSession) (e : GEdit) : GSession :=
  if e.fKind = 4 then { s with fFeeds := s.fFeeds.set e.fTrack.toNat e.fValue }
  else if e.fKind = 5 then { s with fMixer := ⟨turnAt s.fMixer.fStrips e.fTrack.toNat fun x => { x with fSends := turnAt x.fSends e.fClip.toNat fun y => { y with fGain := e.fValue } }⟩ }
  else { s with fTracks := turnAt s.fTracks e.fTrack.toNat fun x => ⟨editL x.fClips e⟩ }
noncomputable def applyF (s : GSession) (e : GEdit) : GSession × Int :=
  if tf (SessionOk s ∧ FieldsOk e) = true then
    (if tf (RangeOk s e) = true then
      (if e.fKind = 1 ∧ 12 ≤ (clipsAt s e.fTrack).length then (noSession, 5)
      else if tf (SessionOk (doE s e)) = true then (doE s e, 0) else (noSession, 6))
    else (noSession, 2))
  else (noSession, 1)
section
variable {s : GSession} {e : GEdit}
theorem fields_kind (h : FieldsOk e) : e.fKind = 1 ∨ e.fKind = 2 ∨ e.fKind = 3 ∨ e.fKind = 4 ∨ e.fKind = 5 := by
  unfold FieldsOk at h
  by_cases h1 : e.fKind = 1
  · exact .inl h1
  by_cases h2 : e.fKind = 2
  · exact .inr (.inl h2)
  by_cases h3 : e.fKind = 3
  · exact .inr (.inr (.inl h3))
  by_cases h4 : e.fKind = 4
  · exact .inr (.inr (.inr (.inl h4)))
  by_cases h5 : e.fKind = 5
  · exact .inr (.inr (.inr (.inr h5)))
  · simp [h1, h2, h3, h4, h5] at h
theorem doE_feed (h : SessionOk s) (hr : RangeOk s e) (hk : e.fKind = 4) : SessionOk (doE s e) := by
  unfold RangeOk at hr
  simp only [hk] at hr
  have hv := inB_true.1 (show inB e.fValue 0 ((s.fMixer.fStrips.length : Int) - 1) = true by simpa using hr.2)
  unfold doE
  rw [if_pos hk]
  exact ⟨h.length, h.sources, h.few, h.mixer, by simpa using h.feed, fun i x hx => by
    have hx : (s.fFeeds.set e.fTrack.toNat e.fValue)[i]? = some x := hx
    rw [List.getElem?_set] at hx
    split at hx
    · split at hx
      · injection hx with hx; subst hx; exact ⟨hv.1, by show e.fValue ≤ (s.fMixer.fStrips.length : Int) - 1; omega⟩
      · cases hx
    · exact h.feeds i x hx, h.effect, h.tracks, h.effects⟩
theorem befS_turn (l : List GSend) (k : Nat) (v strip : Int) (i : Nat) : befS (turnAt l k fun y => { y with fGain := v }) strip i = befS l strip i := by
  unfold befS
  split
  · rfl
  · rw [List.getD_eq_getElem?_getD, List.getD_eq_getElem?_getD, turnAt_get]
    cases l[i - 1]? with
    | none => rfl
    | some y =>
      simp only [Option.map_some, Option.getD_some]
      split <;> rfl
theorem sends_turn {l : List GSend} {strip n v : Int} {k : Nat} (h : SendsOk l strip n) (hv : Smp v) : SendsOk (turnAt l k fun y => { y with fGain := v }) strip n := by
  refine ⟨fun i x hx => ?_, fun e => by rw [length_turnAt]; exact h.last e, fun e => by rw [length_turnAt]; exact h.few e⟩
  show inB x.fTo (befS (turnAt l k fun y => { y with fGain := v }) strip i + 1) (n - 1) = true ∧ Smp x.fGain
  rw [befS_turn]
  rw [turnAt_get] at hx
  cases hg : l[i]? with
  | none => rw [hg] at hx; cases hx
  | some y =>
    rw [hg] at hx
    simp only [Option.map_some] at hx
    injection hx with hx
    have hy := h.each i y hg
    subst hx
    split
    · exact ⟨hy.1, hv⟩
    · exact hy
theorem doE_send (h : SessionOk s) (hr : RangeOk s e) (hk : e.fKind = 5) : SessionOk (doE s e) := by
  unfold RangeOk at hr
  rw [if_pos hk] at hr
  have hv := hr.2.2
  unfold doE
  rw [if_neg (by omega), if_pos hk]
  have hlen : (turnAt s.fMixer.fStrips e.fTrack.toNat fun x => { x with fSends := turnAt x.fSends e.fClip.toNat fun y => { y with fGain := e.fValue } }).length = s.fMixer.fStrips.length := length_turnAt _ _ _
  refine ⟨h.length, h.sources, h.few, ⟨by rw [hlen]; exact h.mixer.some_, by rw [hlen]; exact h.mixer.few, fun i x hx => ?_⟩, h.feed, by rw [hlen]; exact h.feeds, by rw [hlen]; exact h.effect, h.tracks, h.effects⟩
  rw [hlen]
  have hx : (turnAt s.fMixer.fStrips e.fTrack.toNat fun x => { x with fSends := turnAt x.fSends e.fClip.toNat fun y => { y with fGain := e.fValue } })[i]? = some x := hx
  rw [turnAt_get] at hx
  cases hg : s.fMixer.fStrips[i]? with
  | none => rw [hg] at hx; cases hx
  | some x0 =>
    rw [hg] at hx
    simp only [Option.map_some] at hx
    injection hx with hx
    obtain ⟨h1, h2⟩ := h.mixer.each i x0 hg
    have hn : x.fName = x0.fName := by subst hx; split <;> rfl
    refine ⟨?_, fun j y hj hy => ?_⟩
    · subst hx
      split
      · exact ⟨h1.name, h1.latency, sends_turn h1.sends hv⟩
      · exact h1
    · have hy : (turnAt s.fMixer.fStrips e.fTrack.toNat fun x => { x with fSends := turnAt x.fSends e.fClip.toNat fun y => { y with fGain := e.fValue } })[j]? = some y := hy
      rw [turnAt_get] at hy
      cases hg2 : s.fMixer.fStrips[j]? with
      | none => rw [hg2] at hy; cases hy
      | some y0 =>
        rw [hg2] at hy
        simp only [Option.map_some] at hy
        injection hy with hy
        have hn2 : y.fName = y0.fName := by subst hy; split <;> rfl
        rw [hn, hn2]
        exact h2 j y0 hj hg2
theorem editL_mem {l : List GClip} {c : GClip} (h : c ∈ editL l e) : c ∈ l ∨ (c = e.fNew ∧ e.fKind ≠ 2) := by
  unfold editL at h
  split at h
  · next hk =>
    rcases List.mem_append.1 h with h | h
    · exact .inl (List.mem_of_mem_take h)
    · rcases List.mem_cons.1 h with h | h
      · exact .inr ⟨h, by omega⟩
      · exact .inl (List.mem_of_mem_drop h)
  · split at h
    · rcases List.mem_append.1 h with h | h
      · exact .inl (List.mem_of_mem_take h)
      · exact .inl (List.mem_of_mem_drop h)
    · next h1 h2 =>
      rcases List.mem_append.1 h with h | h
      · exact .inl (List.mem_of_mem_take h)
      · rcases List.mem_cons.1 h with h | h
        · exact .inr ⟨h, h2⟩
        · exact .inl (List.mem_of_mem_drop h)
/-- An edit of clips leaves a valid session just where the track stays valid. -/
theorem doE_clips (h : SessionOk s) (hf : FieldsOk e) (hr : RangeOk s e) (h4 : e.fKind ≠ 4) (h5 : e.fKind ≠ 5) {t : GTrack} (ht : s.fTracks[e.fTrack.toNat]? = some t) :
    SessionOk (doE s e) ↔ TrackOk ⟨editL t.fClips e⟩ := by
  unfold doE
  rw [if_neg h4, if_neg h5]
  have hget : ∀ i, (turnAt s.fTracks e.fTrack.toNat fun x => (⟨editL x.fClips e⟩ : GTrack))[i]? = (s.fTracks[i]?).map (fun x => if i = e.fTrack.toNat then (⟨editL x.fClips e⟩ : GTrack) else x) := fun i => turnAt_get
  constructor
  · intro g
    have := g.tracks e.fTrack.toNat ⟨editL t.fClips e⟩ (by
      show (turnAt s.fTracks e.fTrack.toNat fun x => (⟨editL x.fClips e⟩ : GTrack))[e.fTrack.toNat]? = _
      rw [hget, ht]; simp)
    exact this.1
  · intro g
    have hs : e.fKind ≠ 2 → e.fNew.fSource < (s.fSources.length : Int) := by
      intro h2
      unfold RangeOk at hr
      rw [if_neg h5] at hr
      have hr := hr.2
      rcases fields_kind hf with k | k | k | k | k
      · rw [if_pos k] at hr; exact hr.2
      · exact absurd k h2
      · rw [if_neg (by omega), if_pos k] at hr; exact hr.2
      · exact absurd k h4
      · exact absurd k h5
    refine ⟨h.length, h.sources, by show (turnAt s.fTracks _ _).length ≤ 6; rw [length_turnAt]; exact h.few, h.mixer, by show s.fFeeds.length = (turnAt s.fTracks _ _).length; rw [length_turnAt]; exact h.feed, h.feeds, h.effect, fun i x hx => ?_, h.effects⟩
    have hx : (turnAt s.fTracks e.fTrack.toNat fun x => (⟨editL x.fClips e⟩ : GTrack))[i]? = some x := hx
    rw [hget] at hx
    cases hg : s.fTracks[i]? with
    | none => rw [hg] at hx; cases hx
    | some x0 =>
      rw [hg] at hx
      simp only [Option.map_some] at hx
      injection hx with hx
      obtain ⟨h1, h2⟩ := h.tracks i x0 hg
      by_cases hi : i = e.fTrack.toNat
      · rw [if_pos hi] at hx
        rw [hi] at hg
        rw [ht] at hg
        injection hg with hg
        subst hg hx
        refine ⟨g, fun j c hc => ?_⟩
        rcases editL_mem (List.mem_of_getElem? hc) with hm | ⟨rfl, hk⟩
        · exact Each.of_mem.1 h2 c hm
        · exact hs hk
      · rw [if_neg hi] at hx
        subst hx
        exact ⟨h1, h2⟩
end
theorem fieldsB_new {e : GEdit} (h : e.fKind = 1 ∨ e.fKind = 3) : tf (FieldsOk e) = (decide (e.fValue = 0) && tf (ClipOk e.fNew)) := by
  unfold FieldsOk; rw [if_pos h, ← tf_and, tf_dec]
theorem fieldsB_rem {e : GEdit} (h : e.fKind = 2) : tf (FieldsOk e) = (decide (e.fValue = 0) && decide (e.fNew = noClip)) := by
  unfold FieldsOk; rw [if_neg (by omega), if_pos h, ← tf_and, tf_dec, tf_dec]
theorem fieldsB_feed {e : GEdit} (h : e.fKind = 4) : tf (FieldsOk e) = (decide (e.fClip = 0) && decide (e.fNew = noClip)) := by
  unfold FieldsOk; rw [if_neg (by omega), if_neg (by omega), if_pos h, ← tf_and, tf_dec, tf_dec]
theorem fieldsB_send {e : GEdit} (h : e.fKind = 5) : tf (FieldsOk e) = decide (e.fNew = noClip) := by
  unfold FieldsOk; rw [if_neg (by omega), if_neg (by omega), if_neg (by omega), if_pos h, tf_dec]
theorem fieldsB_none {e : GEdit} (h : ¬ (e.fKind = 1 ∨ e.fKind = 3)) (h2 : e.fKind ≠ 2) (h4 : e.fKind ≠ 4) (h5 : e.fKind ≠ 5) : tf (FieldsOk e) = false := by
  unfold FieldsOk; rw [if_neg h, if_neg h2, if_neg h4, if_neg h5]; exact tf_no (fun h => h)
section
variable {s : GSession} {e : GEdit}
theorem rangeB_send (h : e.fKind = 5) : tf (RangeOk s e) = (inB e.fTrack 0 ((s.fMixer.fStrips.length : Int) - 1) && (inB e.fClip 0 (((sendsAt s e.fTrack).length : Int) - 1) && decide (Smp e.fValue))) := by
  unfold RangeOk; rw [if_pos h, ← tf_and, ← tf_and, tf_dec, tf_dec, tf_dec]; simp
theorem rangeB_out (h : e.fKind ≠ 5) (ht : inB e.fTrack 0 ((s.fTracks.length : Int) - 1) = false) : tf (RangeOk s e) = false := by
  unfold RangeOk; rw [if_neg h]; exact tf_no (fun k => by rw [ht] at k; exact absurd k.1 (by simp))
theorem rangeB_ins (h : e.fKind = 1) (ht : inB e.fTrack 0 ((s.fTracks.length : Int) - 1) = true) : tf (RangeOk s e) = (inB e.fClip 0 ((clipsAt s e.fTrack).length : Int) && decide (e.fNew.fSource < (s.fSources.length : Int))) := by
  unfold RangeOk; rw [if_neg (by omega), if_pos h, ← tf_and, ← tf_and, tf_dec, tf_dec, tf_dec, ht]; simp
theorem rangeB_rep (h : e.fKind = 3) (ht : inB e.fTrack 0 ((s.fTracks.length : Int) - 1) = true) : tf (RangeOk s e) = (inB e.fClip 0 (((clipsAt s e.fTrack).length : Int) - 1) && decide (e.fNew.fSource < (s.fSources.length : Int))) := by
  unfold RangeOk; rw [if_neg (by omega), if_neg (by omega), if_pos h, ← tf_and, ← tf_and, tf_dec, tf_dec, tf_dec, ht]; simp
theorem rangeB_rem (h : e.fKind = 2) (ht : inB e.fTrack 0 ((s.fTracks.length : Int) - 1) = true) : tf (RangeOk s e) = inB e.fClip 0 (((clipsAt s e.fTrack).length : Int) - 1) := by
  unfold RangeOk; rw [if_neg (by omega), if_neg (by omega), if_neg (by omega), if_pos h, ← tf_and, tf_dec, tf_dec, ht]; simp
theorem rangeB_feed (h5 : e.fKind ≠ 5) (h1 : e.fKind ≠ 1) (h2 : e.fKind ≠ 2) (h3 : e.fKind ≠ 3) (ht : inB e.fTrack 0 ((s.fTracks.length : Int) - 1) = true) : tf (RangeOk s e) = inB e.fValue 0 ((s.fMixer.fStrips.length : Int) - 1) := by
  unfold RangeOk; rw [if_neg h5, if_neg h1, if_neg h3, if_neg h2, ← tf_and, tf_dec, tf_dec, ht]; simp
end
end Go.Proofs.YtgmgjhdckepmmaaGreat
end
section
namespace Go.Proofs.YtgmgjhdckepmmaaGreat
open Go.RowKit
section
variable {s : GSession} {e : GEdit}
theorem applyF_ok (h : (applyF s e).2 = 0) : SessionOk s ∧ FieldsOk e ∧ RangeOk s e ∧ ¬ (e.fKind = 1 ∧ 12 ≤ (clipsAt s e.fTrack).length) ∧ SessionOk (doE s e) ∧ (applyF s e).1 = doE s e := by
  unfold applyF at h ⊢
  by_cases h1 : tf (SessionOk s ∧ FieldsOk e) = true
  · rw [if_pos h1] at h ⊢
    by_cases h2 : tf (RangeOk s e) = true
    · rw [if_pos h2] at h ⊢
      by_cases h3 : e.fKind = 1 ∧ 12 ≤ (clipsAt s e.fTrack).length
      · rw [if_pos h3] at h
        exact absurd h (by decide)
      · rw [if_neg h3] at h ⊢
        by_cases h4 : tf (SessionOk (doE s e)) = true
        · rw [if_pos h4]
          exact ⟨(tf_true.1 h1).1, (tf_true.1 h1).2, tf_true.1 h2, h3, tf_true.1 h4, rfl⟩
        · rw [if_neg h4] at h
          exact absurd h (by decide)
    · rw [if_neg h2] at h
      exact absurd h (by decide)
  · rw [if_neg h1] at h
    exact absurd h (by decide)
theorem applyF_of (h1 : SessionOk s) (h2 : FieldsOk e) (h3 : RangeOk s e) (h4 : ¬ (e.fKind = 1 ∧ 12 ≤ (clipsAt s e.fTrack).length)) (h5 : SessionOk (doE s e)) : applyF s e = (doE s e, 0) := by
  unfold applyF
  rw [if_pos (tf_yes ⟨h1, h2⟩), if_pos (tf_yes h3), if_neg h4, if_pos (tf_yes h5)]
theorem range_track (h : RangeOk s e) (h5 : e.fKind ≠ 5) : ∃ k t, e.fTrack = ((k : Nat) : Int) ∧ s.fTracks[k]? = some t := by
  unfold RangeOk at h
  rw [if_neg h5] at h
  have := inB_true.1 h.1
  refine ⟨e.fTrack.toNat, s.fTracks[e.fTrack.toNat]'(by omega), by omega, List.getElem?_eq_getElem _⟩
theorem doE_kind (s : GSession) (e : GEdit) (h4 : e.fKind ≠ 4) (h5 : e.fKind ≠ 5) : doE s e = { s with fTracks := turnAt s.fTracks e.fTrack.toNat fun x => ⟨editL x.fClips e⟩ } := by
  unfold doE
  rw [if_neg h4, if_neg h5]
end
/-- Edits one after the other. -/
noncomputable def runE : GSession → List GEdit → Nat → GSession × Int × Int
  | s, [], i => (s, (i : Int), 0)
  | s, e :: r, i => if (applyF s e).2 = 0 then runE (applyF s e).1 r (i + 1) else (noSession, (i : Int), (applyF s e).2)
noncomputable def applyEs (s : GSession) (l : List GEdit) : GSession × Int × Int :=
  if tf (SessionOk s) = true then (if l.length ≤ 40 then runE s l 0 else (noSession, 0, 2)) else (noSession, 0, 1)
end Go.Proofs.YtgmgjhdckepmmaaGreat
end
section
namespace Go.Proofs.YtgmgjhdckepmmaaGreat
open Go.RowKit
/-- Lists of blocks, one behind the other, from lo on and below hi. -/
def Sg : Nat → Nat → List (List Nat) → Prop
  | lo, hi, [] => lo ≤ hi
  | lo, hi, F :: r => ∃ m, lo ≤ m ∧ F.Nodup ∧ (∀ b ∈ F, lo ≤ b ∧ b < m) ∧ Sg m hi r
theorem Sg.le : ∀ {lo hi : Nat} {xs : List (List Nat)}, Sg lo hi xs → lo ≤ hi
  | _, _, [], h => h
  | _, _, _ :: _, ⟨_, h1, _, _, h2⟩ => Nat.le_trans h1 (Sg.le h2)
theorem Sg.app : ∀ {a b c : Nat} {xs ys : List (List Nat)}, Sg a b xs → Sg b c ys → Sg a c (xs ++ ys)
  | a, b, c, [], [], h, k => Nat.le_trans h k
  | a, b, c, [], F :: r, h, ⟨m, h1, h2, h3, h4⟩ => ⟨m, Nat.le_trans h h1, h2, fun x hx => ⟨Nat.le_trans h (h3 x hx).1, (h3 x hx).2⟩, h4⟩
  | a, b, c, F :: r, ys, ⟨m, h1, h2, h3, h4⟩, k => ⟨m, h1, h2, h3, Sg.app h4 k⟩
theorem Sg.more : ∀ {a a' b : Nat} {xs : List (List Nat)}, Sg a b xs → a' ≤ a → Sg a' b xs
  | _, _, _, [], h, k => Nat.le_trans k h
  | _, _, _, _ :: _, ⟨m, h1, h2, h3, h4⟩, k => ⟨m, Nat.le_trans k h1, h2, fun x hx => ⟨Nat.le_trans k (h3 x hx).1, (h3 x hx).2⟩, h4⟩
theorem Sg.all : ∀ {lo hi : Nat} {xs : List (List Nat)}, Sg lo hi xs → xs.flatten.Nodup ∧ ∀ b ∈ xs.flatten, lo ≤ b ∧ b < hi
  | _, _, [], _ => by simp
  | lo, hi, F :: r, ⟨m, h1, h2, h3, h4⟩ => by
    obtain ⟨k1, k2⟩ := Sg.all h4
    have hm := Sg.le h4
    refine ⟨?_, ?_⟩
    · rw [List.flatten_cons]
      exact nodup_lo h2 k1 (fun b hb => (h3 b hb).2) (fun b hb => (k2 b hb).1)
    · intro b hb
      rw [List.flatten_cons] at hb
      rcases List.mem_append.1 hb with hb | hb
      · have := h3 b hb; exact ⟨this.1, by omega⟩
      · have := k2 b hb; exact ⟨by omega, this.2⟩
theorem Nv.sg {w w' : World} {x : T} {F : List Nat} {v : Value} (h : Nv w w' x F v) : Sg w.heap.size w'.heap.size [F] :=
  ⟨w'.heap.size, h.below.size, h.nodup, fun b hb => ⟨h.lo b hb, h.lt b hb⟩, Nat.le_refl _⟩
theorem nf {F : List Nat} {lo g : Nat} (h : ∀ b ∈ F, lo ≤ b) (hg : g < lo) : g ∉ F := fun hm => by have := h g hm; omega
theorem Bk.born1' (w : World) (o : Obj) (t : TypeId) (cs : Array Value) : Bk ((w.alloc o).alloc (.cells cs t)) (w.heap.size + 1) t cs := by
  have := Bk.born (w.alloc o) t cs
  simpa using this
theorem Bk.born2 (w : World) (o o2 : Obj) (t : TypeId) (cs : Array Value) : Bk (((w.alloc o).alloc o2).alloc (.cells cs t)) (w.heap.size + 2) t cs := by
  have := Bk.born ((w.alloc o).alloc o2) t cs
  simpa using this
/-- Cells stored one behind the other. -/
def setsW (w : World) (g : Nat) : Nat → List Value → World
  | _, [] => w
  | p, u :: us => setsW (w.setCell ⟨g, p, none⟩ u) g (p + 1) us
def setsL (es : List Value) : Nat → List Value → List Value
  | _, [] => es
  | p, u :: us => setsL (es.set p u) (p + 1) us
theorem grown_set1 (w : World) (g o : Nat) (u : Value) : w.grownBy (w.setCell ⟨g, o, none⟩ u) (some g) :=
  ⟨rfl, rfl, rfl, by simp [World.setCell], fun k _ hne => Below.heap_setCell w _ u k (fun e => hne (by rw [e]))⟩
theorem own_sets {B E sz n g cap : Nat} : ∀ (us : List Value) (w : World) (p : Nat) (es : List Value), w.ownsRow B E sz (.slice (some ⟨g, 0, none⟩) n cap) n es →
    (setsW w g p us).ownsRow B E sz (.slice (some ⟨g, 0, none⟩) n cap) n (setsL es p us) ∧ w.grownBy (setsW w g p us) (some g)
  | [], w, p, es, h => ⟨h, World.grownBy.refl _ _⟩
  | u :: us, w, p, es, h => by
    obtain ⟨h1, h2⟩ := own_sets us (w.setCell ⟨g, p, none⟩ u) (p + 1) (es.set p u) (World.ownsRow.stored h p u).1
    exact ⟨h1, (grown_set1 w g p u).trans h2⟩
theorem setsL_mid : ∀ (us zs c1 c2 : List Value), us.length = zs.length → setsL (c1 ++ (zs ++ c2)) c1.length us = c1 ++ (us ++ c2)
  | [], [], c1, c2, _ => rfl
  | u :: us, z :: zs, c1, c2, h => by
    have e : (c1 ++ ((z :: zs) ++ c2)).set c1.length u = (c1 ++ [u]) ++ (zs ++ c2) := by
      rw [List.set_append_right _ _ (Nat.le_refl _), Nat.sub_self]
      simp
    have := setsL_mid us zs (c1 ++ [u]) c2 (by simpa using h)
    simp only [setsL]
    rw [e]
    rw [List.length_append, List.length_singleton] at this
    rw [this]
    simp
theorem cut_len {α : Type} {l : List α} {n : Nat} (h : n ≤ l.length) : ∃ a b, l = a ++ b ∧ a.length = n := ⟨l.take n, l.drop n, (List.take_append_drop n l).symm, by rw [List.length_take]; omega⟩
theorem len1 {α : Type} {l : List α} (h : l.length = 1) : ∃ a, l = [a] := by match l, h with | [a], _ => exact ⟨a, rfl⟩
theorem len2 {α : Type} {l : List α} (h : l.length = 2) : ∃ a b, l = [a, b] := by match l, h with | [a, b], _ => exact ⟨a, b, rfl⟩
theorem len3 {α : Type} {l : List α} (h : l.length = 3) : ∃ a b c, l = [a, b, c] := by match l, h with | [a, b, c], _ => exact ⟨a, b, c, rfl⟩
theorem len4 {α : Type} {l : List α} (h : l.length = 4) : ∃ a b c d, l = [a, b, c, d] := by match l, h with | [a, b, c, d], _ => exact ⟨a, b, c, d, rfl⟩
theorem len5 {α : Type} {l : List α} (h : l.length = 5) : ∃ a b c d e, l = [a, b, c, d, e] := by match l, h with | [a, b, c, d, e], _ => exact ⟨a, b, c, d, e, rfl⟩
theorem own_cell {w : World} {B E sz n g cap : Nat} {c1 zs c2 : List Value} (h : w.ownsRow B E sz (.slice (some ⟨g, 0, none⟩) n cap) n (c1 ++ (zs ++ c2))) {j : Nat} {u : Value} (hj : zs[j]? = some u) : w.cell? ⟨g, c1.length + j, none⟩ = some u := by
  have hl := (List.getElem?_eq_some_iff.1 hj).1
  rw [World.ownsRow.cellAt h (c1.length + j) (by rw [← h.1]; simp; omega)]
  rw [List.getElem?_append_right (by omega), Nat.add_sub_cancel_left, List.getElem?_append_left hl]
  exact hj
theorem own_free {w : World} {B E sz n g cap : Nat} {es : List Value} (h : w.ownsRow B E sz (.slice (some ⟨g, 0, none⟩) n cap) n es) (j : Nat) : w.frozen? ⟨g, j, none⟩ = false := World.ownsRow.frozenAt h j
theorem T.ows_snoc {w : World} {xs : List T} {x : T} {F F' : List Nat} {c1 c2 : List Value} (h : T.ows w xs F c1) (k : T.ow w x F' c2) : T.ows w (xs ++ [x]) (F ++ F') (c1 ++ c2) :=
  (T.ows_app xs [x] _ _).2 ⟨F, F', c1, c2, rfl, rfl, h, by simp only [T.ows]; exact ⟨F', [], c2, [], by simp, by simp, k, rfl, rfl⟩⟩
theorem T.ows_grown {w w' : World} {xs : List T} {F : List Nat} {cs : List Value} {g : Nat} (h : T.ows w xs F cs) (hg : w.grownBy w' (some g)) (hn : g ∉ F) : T.ows w' xs F cs :=
  T.ows_keep xs F cs (fun b hb => hg.block b (T.ows_lt xs F cs h b hb) (fun e => hn (by injection e with e; rw [← e]; exact hb))) h
theorem T.ow_grown {w w' : World} {x : T} {F : List Nat} {cs : List Value} {g : Nat} (h : T.ow w x F cs) (hg : w.grownBy w' (some g)) (hn : g ∉ F) : T.ow w' x F cs :=
  T.ow_keep x F cs (fun b hb => hg.block b (T.ow_lt x F cs h b hb) (fun e => hn (by injection e with e; rw [← e]; exact hb))) h
/-- The row being filled: the first k elements are laid. -/
structure Fil (w0 wr : World) (E sz n : Nat) (xs : List T) (G : List Nat) (c1 c2 : List Value) : Prop where
  own : wr.ownsRow 0 E sz (.slice (some ⟨w0.heap.size, 0, none⟩) n n) n (c1 ++ c2)
  ows : T.ows wr xs G c1
  nodup : G.Nodup
  lo : ∀ b ∈ G, w0.heap.size + 1 ≤ b
  below : Below w0.heap.size w0 wr
theorem Fil.len {w0 wr : World} {E sz n : Nat} {xs : List T} {G : List Nat} {c1 c2 : List Value} (h : Fil w0 wr E sz n xs G c1 c2) (hw : ∀ x ∈ xs, T.wide x = sz) : c1.length = xs.length * sz := by
  rw [T.ows_len h.ows, T.wides_mul xs hw]
/-- A call that lays memory leaves the row as it is. -/
theorem Fil.call {w0 wr w1 : World} {E sz n : Nat} {xs : List T} {G : List Nat} {c1 c2 : List Value} (h : Fil w0 wr E sz n xs G c1 c2) (hb : Below wr.heap.size wr w1) : Fil w0 w1 E sz n xs G c1 c2 :=
  ⟨own_all h.own hb, T.ows_all h.ows hb, h.nodup, h.lo, bthen h.below h.below.size hb⟩
/-- One element more. -/
theorem Fil.step {w0 wr w1 : World} {E sz n : Nat} {xs : List T} {G F : List Nat} {c1 zs c2 us : List Value} {x : T} (h : Fil w0 w1 E sz n xs G c1 (zs ++ c2)) (hl : us.length = zs.length)
    (hs : w0.heap.size + 1 ≤ wr.heap.size) (hx : T.ow w1 x F us) (hF : F.Nodup) (hF2 : ∀ b ∈ F, wr.heap.size ≤ b) (hG : ∀ b ∈ G, b < wr.heap.size) :
    Fil w0 (setsW w1 w0.heap.size c1.length us) E sz n (xs ++ [x]) (G ++ F) (c1 ++ us) c2 := by
  obtain ⟨h1, h2⟩ := own_sets us w1 c1.length _ h.own
  rw [setsL_mid us zs c1 c2 hl, ← List.append_assoc] at h1
  have hgG : w0.heap.size ∉ G := nf h.lo (by omega)
  have hgF : w0.heap.size ∉ F := nf hF2 (by omega)
  refine ⟨h1, T.ows_snoc (T.ows_grown h.ows h2 hgG) (T.ow_grown hx h2 hgF), nodup_lo h.nodup hF hG hF2, ?_, h.below.grown h2 h.below.size (fun k hk => by injection hk with hk; omega)⟩
  intro b hb
  rcases List.mem_append.1 hb with hb | hb
  · exact h.lo b hb
  · have := hF2 b hb; omega
theorem Fil.done {w0 wr : World} {E sz n : Nat} {xs : List T} {G : List Nat} {c1 : List Value} (h : Fil w0 wr E sz n xs G c1 []) (hw : ∀ x ∈ xs, T.wide x = sz) (hn : xs.length = n) :
    Nv w0 wr (.sl E sz xs) (w0.heap.size :: G) (.slice (some ⟨w0.heap.size, 0, none⟩) n n) := by
  have ho := h.own
  rw [List.append_nil] at ho
  refine ⟨?_, ?_, ?_, h.below⟩
  · simp only [T.ow]
    exact ⟨_, c1, G, rfl, rfl, hw, by rw [hn]; exact ho, h.ows⟩
  · rw [List.nodup_cons]; exact ⟨nf h.lo (by omega), h.nodup⟩
  · intro b hb
    rcases List.mem_cons.1 hb with rfl | hb
    · exact Nat.le_refl _
    · have := h.lo b hb; omega
theorem Fil.lt {w0 wr : World} {E sz n : Nat} {xs : List T} {G : List Nat} {c1 c2 : List Value} (h : Fil w0 wr E sz n xs G c1 c2) : ∀ b ∈ G, b < wr.heap.size := T.ows_lt _ _ _ h.ows
theorem Fil.up {w0 wr : World} {E sz n : Nat} {xs : List T} {G : List Nat} {c1 c2 : List Value} (h : Fil w0 wr E sz n xs G c1 c2) : w0.heap.size + 1 ≤ wr.heap.size := by
  have := (h.own.lt w0.heap.size rfl).2; omega
theorem Fil.born {w0 w1 : World} {E sz n : Nat} {es : List Value} (h : w1.ownsRow w0.heap.size E sz (.slice (some ⟨w0.heap.size, 0, none⟩) n n) n es) (hg : w0.grownBy w1 none) : Fil w0 w1 E sz n [] [] [] es :=
  ⟨own_more h (Nat.zero_le _), T.c_oe, by simp, by simp, (Below.refl _ _).grown hg (Nat.le_refl _) (by simp)⟩
theorem Fil.rest {w0 wr : World} {E sz n : Nat} {xs : List T} {G : List Nat} {c1 c2 : List Value} (h : Fil w0 wr E sz n xs G c1 c2) (hw : ∀ x ∈ xs, T.wide x = sz) : c2.length = n * sz - xs.length * sz := by
  have h1 := h.own.1
  have h2 := h.len hw
  rw [List.length_append] at h1
  omega
theorem T.rd_slice {w : World} {E : TypeId} {sz : Nat} {xs : List T} {u : Value} (h : T.rd w (.sl E sz xs) [u]) : ∃ A l c, u = .slice A l c := by
  obtain ⟨A, cap, rfl, _⟩ := T.rd_open h
  exact ⟨_, _, _, rfl⟩
theorem T.ow_slice {w : World} {E : TypeId} {sz : Nat} {xs : List T} {F : List Nat} {u : Value} (h : T.ow w (.sl E sz xs) F [u]) : ∃ A l c, u = .slice A l c := T.rd_slice (T.ow_rd _ _ _ h)
end Go.Proofs.YtgmgjhdckepmmaaGreat
end
