/- What valid sessions and caches are, in plain words. Edits, in plain words. Edits taken back, in plain words. The range of an edit, in plain words. Words: a slice of elements opened; a struct behind a pointer. -/
import Derived.Test.YtajoaflfjilhmaaGreatQAbExactDirtyRange
import Derived.Test.YtajoaflfjilhmaaGreatQAaExactDirtyRange
set_option linter.unusedVariables false
set_option linter.unusedSimpArgs false
section
namespace Go.Proofs.YtajoaflfjilhmaaGreat
open Go.RowKit
noncomputable def tf (p : Prop) : Bool := @decide p (Classical.propDecidable p)
theorem tf_yes {p : Prop} (h : p) : tf p = true := by unfold tf; exact @decide_eq_true p (Classical.propDecidable p) h
theorem tf_no {p : Prop} (h : ¬ p) : tf p = false := by unfold tf; exact @decide_eq_false p (Classical.propDecidable p) h
theorem tf_iff {p q : Prop} (h : p ↔ q) : tf p = tf q := by rw [propext h]
theorem tf_true {p : Prop} : tf p = true ↔ p := by
  constructor
  · intro e
    apply Classical.byContradiction
    intro h
    rw [tf_no h] at e
    exact absurd e (by simp)
  · exact tf_yes
theorem tf_dec {p : Prop} [d : Decidable p] : tf p = decide p := by
  by_cases h : p
  · rw [tf_yes h, decide_eq_true h]
  · rw [tf_no h, decide_eq_false h]
theorem tf_and {p q : Prop} : (tf p && tf q) = tf (p ∧ q) := by
  rw [Bool.eq_iff_iff]; simp [tf_true]
/-- The first k elements are right; all are. -/
def Upto {α : Type} (xs : List α) (Q : Nat → α → Prop) (k : Nat) : Prop := ∀ i x, i < k → xs[i]? = some x → Q i x
def Each {α : Type} (xs : List α) (Q : Nat → α → Prop) : Prop := ∀ i x, xs[i]? = some x → Q i x
section
variable {α : Type} {xs : List α} {Q : Nat → α → Prop} {k : Nat} {x : α}
theorem Upto.zero : Upto xs Q 0 := fun i _ h => absurd h (Nat.not_lt_zero i)
theorem Upto.step (h : Upto xs Q k) (hx : xs[k]? = some x) (q : Q k x) : Upto xs Q (k + 1) := by
  intro i y hi hy
  by_cases e : i = k
  · subst e
    rw [hx] at hy
    injection hy with hy
    subst hy
    exact q
  · exact h i y (by omega) hy
theorem Upto.all (h : Upto xs Q k) (hk : xs.length ≤ k) : Each xs Q := fun i y hy => h i y (Nat.lt_of_lt_of_le (List.getElem?_eq_some_iff.1 hy).1 hk) hy
theorem Each.of_mem {P : α → Prop} : Each xs (fun _ y => P y) ↔ ∀ y ∈ xs, P y := by
  constructor
  · intro h y hy
    obtain ⟨i, hi, rfl⟩ := List.mem_iff_getElem.1 hy
    exact h i _ (List.getElem?_eq_getElem hi)
  · intro h i y hy
    exact h y (List.mem_of_getElem? hy)
end
/-- Numbers from 0 on and below n. -/
def Idx (l : List Int) (n : Int) : Prop := Each l fun _ x => 0 ≤ x ∧ x ≤ n - 1
structure ClipOk (c : GClip) : Prop where
  source : inB c.fSource 0 5 = true
  length : inB c.fLength 1 4000 = true
  from_ : inB c.fFrom 0 (4000 - c.fLength) = true
  at_ : inB c.fAt 0 (4000 - c.fLength) = true
  gain : Smp c.fGain
structure TrackOk (t : GTrack) : Prop where
  clips : Each t.fClips fun i c => ClipOk c ∧ ∀ p, 0 < i → t.fClips[i - 1]? = some p → p.fAt ≤ c.fAt
  few : t.fClips.length ≤ 12
def befS (l : List GSend) (strip : Int) (i : Nat) : Int := if i = 0 then strip else (l.getD (i - 1) ⟨0, 0⟩).fTo
structure SendsOk (l : List GSend) (strip n : Int) : Prop where
  each : Each l fun i x => inB x.fTo (befS l strip i + 1) (n - 1) = true ∧ Smp x.fGain
  last : strip = n - 1 → l.length = 0
  few : strip ≠ n - 1 → 1 ≤ l.length ∧ l.length ≤ 4
def smallN (c : Nat) : Prop := 97 ≤ c ∧ c ≤ 122
def digitN (c : Nat) : Prop := 48 ≤ c ∧ c ≤ 57
structure NameOk (s : ByteArray) : Prop where
  some_ : 1 ≤ s.size
  few : s.size ≤ 10
  each : ∀ i, i < s.size → smallN (bA s i) ∨ (digitN (bA s i) ∧ i ≠ 0)
structure StripOk (x : GStrip) (i n : Int) : Prop where
  name : NameOk x.fName
  latency : inB x.fLatency 0 32 = true
  sends : SendsOk x.fSends i n
structure MixerOk (m : GMixer) : Prop where
  some_ : 1 ≤ m.fStrips.length
  few : m.fStrips.length ≤ 8
  each : Each m.fStrips fun i x => StripOk x (i : Int) (m.fStrips.length : Int) ∧ ∀ j y, j < i → m.fStrips[j]? = some y → y.fName ≠ x.fName
structure SourcesOk (ss : List (List Int)) : Prop where
  each : Each ss fun _ l => sigB l = true
  few : ss.length ≤ 6
structure TablesOk (ts : List (List Int)) : Prop where
  each : Each ts fun _ t => (t.length = 2 ∨ t.length = 4 ∨ t.length = 8 ∨ t.length = 16) ∧ smpB t = true
  few : ts.length ≤ 4
/-- What is known of a kind of nodes: its inputs, the range of A (none if the first is greater), whether it has B. -/
structure Knd where
  inputs : Int
  low : Int
  high : Int
  linear : Bool
  hasB : Bool
def kndL : List Knd := [⟨0, 0, 3, true, false⟩, ⟨0, -2147483648, 2147483647, false, false⟩, ⟨2, 1, 0, true, false⟩, ⟨2, 1, 0, true, false⟩, ⟨1, -2147483648, 2147483647, true, false⟩, ⟨1, 1, 16, true, false⟩, ⟨1, 1, 0, true, false⟩, ⟨1, 1, 0, true, false⟩, ⟨2, 1, 0, false, false⟩, ⟨1, 0, 31, false, false⟩, ⟨1, 0, 2147483647, false, false⟩, ⟨1, -2147483648, 2147483647, false, false⟩, ⟨1, 0, 3, false, false⟩, ⟨0, -2147483648, 2147483647, false, false⟩, ⟨3, 1, 0, false, false⟩, ⟨2, 1, 0, false, false⟩, ⟨1, -2147483648, 2147483647, true, true⟩]
def kndF (k : Int) : Knd := kndL.getD (k - 1).toNat ⟨0, 0, 0, false, false⟩
structure NodeOk (x : GNode) (tables : Int) : Prop where
  kind : inB x.fKind 1 17 = true
  a : if (kndF x.fKind).low ≤ (kndF x.fKind).high then inB x.fA (kndF x.fKind).low (kndF x.fKind).high = true else x.fA = 0
  b : if (kndF x.fKind).hasB then inB x.fB 1 16 = true else x.fB = 0
  from_ : Each x.fFrom fun _ f => inB f 0 23 = true
  arity : (x.fFrom.length : Int) = (kndF x.fKind).inputs
  table : x.fKind = 13 → x.fA < tables
structure FormedOk (p : GPatch) : Prop where
  inputs : inB p.fInputs 0 4 = true
  tables : TablesOk p.fTables
  few : p.fNodes.length ≤ 24
  outs : p.fOutputs.length ≤ 4
  outputs : Idx p.fOutputs (p.fNodes.length : Int)
  nodes : Each p.fNodes fun _ x => NodeOk x (p.fTables.length : Int) ∧ Idx x.fFrom (p.fNodes.length : Int) ∧ (x.fKind = 1 → x.fA < p.fInputs)
/-- The nodes that a node waits for. -/
def waitsF (x : GNode) : List Int := if x.fKind = 6 then [] else x.fFrom
def readyB (nodes : List GNode) (out : List Int) (i : Nat) : Bool := !out.contains (i : Int) && ((nodes[i]?).map fun x => (waitsF x).all fun f => out.contains f).getD false
def nextF (nodes : List GNode) (out : List Int) : Option Nat := (List.range nodes.length).find? (readyB nodes out)
/-- The order in which nodes are computed: the first steps. -/
def ordNodes (nodes : List GNode) : Nat → List Int
  | 0 => []
  | k + 1 => match nextF nodes (ordNodes nodes k) with
    | some i => ordNodes nodes k ++ [(i : Int)]
    | none => ordNodes nodes k
def orderF (nodes : List GNode) : List Int := ordNodes nodes nodes.length
theorem ordNodes_stop {nodes : List GNode} {k : Nat} (h : nextF nodes (ordNodes nodes k) = none) : ∀ m, ordNodes nodes (k + m) = ordNodes nodes k := by
  intro m
  induction m with
  | zero => rfl
  | succ m ih =>
    rw [← Nat.add_assoc]
    simp only [ordNodes]
    rw [ih, h]
theorem nextF_some {nodes : List GNode} {out : List Int} {i : Nat} (hi : i < nodes.length) (hr : readyB nodes out i = true) (hb : ∀ j, j < i → readyB nodes out j = false) : nextF nodes out = some i := by
  unfold nextF
  rw [List.find?_eq_some_iff_getElem]
  refine ⟨hr, i, by simpa using hi, by simp, fun j hj => by simp [hb j hj]⟩
theorem nextF_none {nodes : List GNode} {out : List Int} (hb : ∀ j, j < nodes.length → readyB nodes out j = false) : nextF nodes out = none := by
  unfold nextF
  rw [List.find?_eq_none]
  intro j hj
  simp [hb j (by simpa using hj)]
theorem nextF_inv {nodes : List GNode} {out : List Int} {i : Nat} (h : nextF nodes out = some i) : i < nodes.length ∧ readyB nodes out i = true := by
  unfold nextF at h
  exact ⟨by simpa using List.mem_of_find?_eq_some h, List.find?_some h⟩
theorem ordNodes_in {nodes : List GNode} : ∀ k, (ordNodes nodes k).Nodup ∧ ∀ x ∈ ordNodes nodes k, 0 ≤ x ∧ x < (nodes.length : Int)
  | 0 => by simp [ordNodes]
  | k + 1 => by
    obtain ⟨h1, h2⟩ := ordNodes_in (nodes := nodes) k
    simp only [ordNodes]
    split
    · next i h =>
      obtain ⟨hi, hr⟩ := nextF_inv h
      have hn : (i : Int) ∉ ordNodes nodes k := by
        simp only [readyB, Bool.and_eq_true, Bool.not_eq_true'] at hr
        simpa using hr.1
      refine ⟨?_, ?_⟩
      · rw [List.nodup_append]
        refine ⟨h1, by simp, fun a ha b hb e => ?_⟩
        simp at hb
        subst hb e
        exact hn ha
      · intro x hx
        rcases List.mem_append.1 hx with hx | hx
        · exact h2 x hx
        · simp at hx; subst hx; omega
    · exact ⟨h1, h2⟩
theorem nodup_range : ∀ (n : Nat) (l : List Nat), l.Nodup → (∀ x ∈ l, x < n) → l.length ≤ n
  | 0, [], _, _ => Nat.le_refl _
  | 0, x :: _, _, h => absurd (h x (by simp)) (by omega)
  | n + 1, l, h1, h2 => by
    by_cases hm : n ∈ l
    · have h3 := nodup_range n (l.erase n) (h1.erase n) (fun x hx => by
        have := (h1.mem_erase_iff).1 hx
        have h4 := h2 x this.2
        have h5 := this.1
        omega)
      rw [List.length_erase_of_mem hm] at h3
      omega
    · have h3 := nodup_range n l h1 (fun x hx => by
        have h4 := h2 x hx
        have : x ≠ n := fun e => hm (e ▸ hx)
        omega)
      omega
theorem nodup_bound {n : Nat} {l : List Int} (h1 : l.Nodup) (h2 : ∀ x ∈ l, 0 ≤ x ∧ x < (n : Int)) : l.length ≤ n := by
  have h3 : (l.map Int.toNat).Nodup := by
    rw [List.Nodup, List.pairwise_map]
    refine List.Pairwise.imp_of_mem ?_ h1
    intro a b ha hb hab e
    have := h2 a ha
    have := h2 b hb
    omega
  have := nodup_range n _ h3 (fun x hx => by
    obtain ⟨y, hy, rfl⟩ := List.mem_map.1 hx
    have := h2 y hy
    omega)
  simpa using this
theorem ordNodes_cap {nodes : List GNode} (k : Nat) : (ordNodes nodes k).length ≤ nodes.length := nodup_bound (ordNodes_in k).1 (ordNodes_in k).2
/-- Where the order stops, it has stopped for good. -/
theorem orderF_of_stop {nodes : List GNode} {k : Nat} (h : nextF nodes (ordNodes nodes k) = none) (hk : (ordNodes nodes k).length = k) : orderF nodes = ordNodes nodes k := by
  have hc := ordNodes_cap (nodes := nodes) k
  unfold orderF
  rw [show nodes.length = k + (nodes.length - k) by omega]
  exact ordNodes_stop h _
theorem ordNodes_snoc {nodes : List GNode} {k i : Nat} (h : nextF nodes (ordNodes nodes k) = some i) : ordNodes nodes (k + 1) = ordNodes nodes k ++ [(i : Int)] := by
  simp only [ordNodes, h]
structure PatchOk (p : GPatch) : Prop where
  formed : FormedOk p
  order : (orderF p.fNodes).length = p.fNodes.length
def noPatch : GPatch := ⟨0, [], [], []⟩
def EffectOk (p : GPatch) : Prop := p = noPatch ∨ (PatchOk p ∧ p.fInputs = 1 ∧ p.fOutputs.length = 1)
structure SessionOk (s : GSession) : Prop where
  length : inB s.fLength 0 1000 = true
  sources : SourcesOk s.fSources
  few : s.fTracks.length ≤ 6
  mixer : MixerOk s.fMixer
  feed : s.fFeeds.length = s.fTracks.length
  feeds : Idx s.fFeeds (s.fMixer.fStrips.length : Int)
  effect : s.fEffects.length = s.fMixer.fStrips.length
  tracks : Each s.fTracks fun _ t => TrackOk t ∧ Each t.fClips fun _ c => c.fSource < (s.fSources.length : Int)
  effects : Each s.fEffects fun _ p => EffectOk p
end Go.Proofs.YtajoaflfjilhmaaGreat
end
section
namespace Go.Proofs.YtajoaflfjilhmaaGreat
open Go.RowKit
def noClip : GClip := ⟨0, 0, 0, 0, 0⟩
def noSession : GSession := ⟨0, [], [], [], [], ⟨[]⟩⟩
def FieldsOk (e : GEdit) : Prop :=
  if e.fKind = 1 ∨ e.fKind = 3 then e.fValue = 0 ∧ ClipOk e.fNew
  else if e.fKind = 2 then e.fValue = 0 ∧ e.fNew = noClip
  else if e.fKind = 4 then e.fClip = 0 ∧ e.fNew = noClip
  else if e.fKind = 5 then e.fNew = noClip
  else False
def clipsAt (s : GSession) (t : Int) : List GClip := ((s.fTracks[t.toNat]?).map GTrack.fClips).getD []
def sendsAt (s : GSession) (t : Int) : List GSend := ((s.fMixer.fStrips[t.toNat]?).map GStrip.fSends).getD []
theorem clipsAt_of {s : GSession} {k : Nat} {x : GTrack} (h : s.fTracks[k]? = some x) : clipsAt s (k : Int) = x.fClips := by
  unfold clipsAt; rw [Int.toNat_natCast, h]; rfl
theorem sendsAt_of {s : GSession} {k : Nat} {x : GStrip} (h : s.fMixer.fStrips[k]? = some x) : sendsAt s (k : Int) = x.fSends := by
  unfold sendsAt; rw [Int.toNat_natCast, h]; rfl
def RangeOk (s : GSession) (e : GEdit) : Prop :=
  if e.fKind = 5 then inB e.fTrack 0 ((s.fMixer.fStrips.length : Int) - 1) = true ∧ inB e.fClip 0 (((sendsAt s e.fTrack).length : Int) - 1) = true ∧ Smp e.fValue
  else inB e.fTrack 0 ((s.fTracks.length : Int) - 1) = true ∧
    (if e.fKind = 1 then inB e.fClip 0 ((clipsAt s e.fTrack).length : Int) = true ∧ e.fNew.fSource < (s.fSources.length : Int)
    else if e.fKind = 3 then inB e.fClip 0 (((clipsAt s e.fTrack).length : Int) - 1) = true ∧ e.fNew.fSource < (s.fSources.length : Int)
    else if e.fKind = 2 then inB e.fClip 0 (((clipsAt s e.fTrack).length : Int) - 1) = true
    else inB e.fValue 0 ((s.fMixer.fStrips.length : Int) - 1) = true)
def editL (l : List GClip) (e : GEdit) : List GClip :=
  if e.fKind = 1 then l.take e.fClip.toNat ++ e.fNew :: l.drop e.fClip.toNat
  else if e.fKind = 2 then l.take e.fClip.toNat ++ l.drop (e.fClip.toNat + 1)
  else l.take e.fClip.toNat ++ e.fNew :: l.drop (e.fClip.toNat + 1)
def turnAt {α : Type} (l : List α) (k : Nat) (f : α → α) : List α := match l[k]? with | some x => l.set k (f x) | none => l
theorem turnAt_of {α : Type} {l : List α} {k : Nat} {f : α → α} {x : α} (h : l[k]? = some x) : turnAt l k f = l.set k (f x) := by unfold turnAt; rw [h]
theorem length_turnAt {α : Type} (l : List α) (k : Nat) (f : α → α) : (turnAt l k f).length = l.length := by
  unfold turnAt
  split <;> simp
theorem turnAt_get {α : Type} {l : List α} {k : Nat} {f : α → α} {i : Nat} : (turnAt l k f)[i]? = (l[i]?).map (fun x => if i = k then f x else x) := by
  unfold turnAt
  split
  · next x h =>
    by_cases e : i = k
    · subst e
      rw [List.getElem?_set_self (List.getElem?_eq_some_iff.1 h).1, h]; simp
    · rw [List.getElem?_set_ne (fun h => e h.symm)]
      cases l[i]? <;> simp [e]
  · next h =>
    by_cases e : i = k
    · subst e; rw [h]; rfl
    · cases l[i]? <;> simp [e]
def doE (s : GSession) (e : GEdit) : GSession :=
  if e.fKind = 4 then { s with fFeeds := s.fFeeds.set e.fTrack.toNat e.fValue }
  else if e.fKind = 5 then { s with fMixer := ⟨turnAt s.fMixer.fStrips e.fTrack.toNat fun x => { x with fSends := turnAt x.fSends e.fClip.toNat fun y => { y with fGain := e.fValue } }⟩ }
  else { s with fTracks := turnAt s.fTracks e.fTrack.toNat fun x => ⟨editL x.fClips e⟩ }
noncomputable def applyF (s : GSession) (e : GEdit) : GSession × Int :=
  if tf (SessionOk s ∧ FieldsOk e) = true then
    (if tf (RangeOk s e) = true then
      (if e.fKind = 1 ∧ 12 ≤ (clipsAt s e.fTrack).length then (noSession, 5)
      else if tf (SessionOk (doE s e)) = true then (doE s e, 0) else (noSession, 6))
    else (noSession, 2))
  else (noSession, 1)
section
variable {s : GSession} {e : GEdit}
theorem fields_kind (h : FieldsOk e) : e.fKind = 1 ∨ e.fKind = 2 ∨ e.fKind = 3 ∨ e.fKind = 4 ∨ e.fKind = 5 := by
  unfold FieldsOk at h
  by_cases h1 : e.fKind = 1
  · exact .inl h1
  by_cases h2 : e.fKind = 2
  · exact .inr (.inl h2)
  by_cases h3 : e.fKind = 3
  · exact .inr (.inr (.inl h3))
  by_cases h4 : e.fKind = 4
  · exact .inr (.inr (.inr (.inl h4)))
  by_cases h5 : e.fKind = 5
  · exact .inr (.inr (.inr (.inr h5)))
  · simp [h1, h2, h3, h4, h5] at h
theorem doE_feed (h : SessionOk s) (hr : RangeOk s e) (hk : e.fKind = 4) : SessionOk (doE s e) := by
  unfold RangeOk at hr
  simp only [hk] at hr
  have hv := inB_true.1 (show inB e.fValue 0 ((s.fMixer.fStrips.length : Int) - 1) = true by simpa using hr.2)
  unfold doE
  rw [if_pos hk]
  exact ⟨h.length, h.sources, h.few, h.mixer, by simpa using h.feed, fun i x hx => by
    have hx : (s.fFeeds.set e.fTrack.toNat e.fValue)[i]? = some x := hx
    rw [List.getElem?_set] at hx
    split at hx
    · split at hx
      · injection hx with hx; subst hx; exact ⟨hv.1, by show e.fValue ≤ (s.fMixer.fStrips.length : Int) - 1; omega⟩
      · cases hx
    · exact h.feeds i x hx, h.effect, h.tracks, h.effects⟩
theorem befS_turn (l : List GSend) (k : Nat) (v strip : Int) (i : Nat) : befS (turnAt l k fun y => { y with fGain := v }) strip i = befS l strip i := by
  unfold befS
  split
  · rfl
  · rw [List.getD_eq_getElem?_getD, List.getD_eq_getElem?_getD, turnAt_get]
    cases l[i - 1]? with
    | none => rfl
    | some y =>
      simp only [Option.map_some, Option.getD_some]
      split <;> rfl
theorem sends_turn {l : List GSend} {strip n v : Int} {k : Nat} (h : SendsOk l strip n) (hv : Smp v) : SendsOk (turnAt l k fun y => { y with fGain := v }) strip n := by
  refine ⟨fun i x hx => ?_, fun e => by rw [length_turnAt]; exact h.last e, fun e => by rw [length_turnAt]; exact h.few e⟩
  show inB x.fTo (befS (turnAt l k fun y => { y with fGain := v }) strip i + 1) (n - 1) = true ∧ Smp x.fGain
  rw [befS_turn]
  rw [turnAt_get] at hx
  cases hg : l[i]? with
  | none => rw [hg] at hx; cases hx
  | some y =>
    rw [hg] at hx
    simp only [Option.map_some] at hx
    injection hx with hx
    have hy := h.each i y hg
    subst hx
    split
    · exact ⟨hy.1, hv⟩
    · exact hy
theorem doE_send (h : SessionOk s) (hr : RangeOk s e) (hk : e.fKind = 5) : SessionOk (doE s e) := by
  unfold RangeOk at hr
  rw [if_pos hk] at hr
  have hv := hr.2.2
  unfold doE
  rw [if_neg (by omega), if_pos hk]
  have hlen : (turnAt s.fMixer.fStrips e.fTrack.toNat fun x => { x with fSends := turnAt x.fSends e.fClip.toNat fun y => { y with fGain := e.fValue } }).length = s.fMixer.fStrips.length := length_turnAt _ _ _
  refine ⟨h.length, h.sources, h.few, ⟨by rw [hlen]; exact h.mixer.some_, by rw [hlen]; exact h.mixer.few, fun i x hx => ?_⟩, h.feed, by rw [hlen]; exact h.feeds, by rw [hlen]; exact h.effect, h.tracks, h.effects⟩
  rw [hlen]
  have hx : (turnAt s.fMixer.fStrips e.fTrack.toNat fun x => { x with fSends := turnAt x.fSends e.fClip.toNat fun y => { y with fGain := e.fValue } })[i]? = some x := hx
  rw [turnAt_get] at hx
  cases hg : s.fMixer.fStrips[i]? with
  | none => rw [hg] at hx; cases hx
  | some x0 =>
    rw [hg] at hx
    simp only [Option.map_some] at hx
    injection hx with hx
    obtain ⟨h1, h2⟩ := h.mixer.each i x0 hg
    have hn : x.fName = x0.fName := by subst hx; split <;> rfl
    refine ⟨?_, fun j y hj hy => ?_⟩
    · subst hx
      split
      · exact ⟨h1.name, h1.latency, sends_turn h1.sends hv⟩
      · exact h1
    · have hy : (turnAt s.fMixer.fStrips e.fTrack.toNat fun x => { x with fSends := turnAt x.fSends e.fClip.toNat fun y => { y with fGain := e.fValue } })[j]? = some y := hy
      rw [turnAt_get] at hy
      cases hg2 : s.fMixer.fStrips[j]? with
      | none => rw [hg2] at hy; cases hy
      | some y0 =>
        rw [hg2] at hy
        simp only [Option.map_some] at hy
        injection hy with hy
        have hn2 : y.fName = y0.fName := by subst hy; split <;> rfl
        rw [hn, hn2]
        exact h2 j y0 hj hg2
theorem editL_mem {l : List GClip} {c : GClip} (h : c ∈ editL l e) : c ∈ l ∨ (c = e.fNew ∧ e.fKind ≠ 2) := by
  unfold editL at h
  split at h
  · next hk =>
    rcases List.mem_append.1 h with h | h
    · exact .inl (List.mem_of_mem_take h)
    · rcases List.mem_cons.1 h with h | h
      · exact .inr ⟨h, by omega⟩
      · exact .inl (List.mem_of_mem_drop h)
  · split at h
    · rcases List.mem_append.1 h with h | h
      · exact .inl (List.mem_of_mem_take h)
      · exact .inl (List.mem_of_mem_drop h)
    · next h1 h2 =>
      rcases List.mem_append.1 h with h | h
      · exact .inl (List.mem_of_mem_take h)
      · rcases List.mem_cons.1 h with h | h
        · exact .inr ⟨h, h2⟩
        · exact .inl (List.mem_of_mem_drop h)
/-- An edit of clips leaves a valid session just where the track stays valid. -/
theorem doE_clips (h : SessionOk s) (hf : FieldsOk e) (hr : RangeOk s e) (h4 : e.fKind ≠ 4) (h5 : e.fKind ≠ 5) {t : GTrack} (ht : s.fTracks[e.fTrack.toNat]? = some t) :
    SessionOk (doE s e) ↔ TrackOk ⟨editL t.fClips e⟩ := by
  unfold doE
  rw [if_neg h4, if_neg h5]
  have hget : ∀ i, (turnAt s.fTracks e.fTrack.toNat fun x => (⟨editL x.fClips e⟩ : GTrack))[i]? = (s.fTracks[i]?).map (fun x => if i = e.fTrack.toNat then (⟨editL x.fClips e⟩ : GTrack) else x) := fun i => turnAt_get
  constructor
  · intro g
    have := g.tracks e.fTrack.toNat ⟨editL t.fClips e⟩ (by
      show (turnAt s.fTracks e.fTrack.toNat fun x => (⟨editL x.fClips e⟩ : GTrack))[e.fTrack.toNat]? = _
      rw [hget, ht]; simp)
    exact this.1
  · intro g
    have hs : e.fKind ≠ 2 → e.fNew.fSource < (s.fSources.length : Int) := by
      intro h2
      unfold RangeOk at hr
      rw [if_neg h5] at hr
      have hr := hr.2
      rcases fields_kind hf with k | k | k | k | k
      · rw [if_pos k] at hr; exact hr.2
      · exact absurd k h2
      · rw [if_neg (by omega), if_pos k] at hr; exact hr.2
      · exact absurd k h4
      · exact absurd k h5
    refine ⟨h.length, h.sources, by show (turnAt s.fTracks _ _).length ≤ 6; rw [length_turnAt]; exact h.few, h.mixer, by show s.fFeeds.length = (turnAt s.fTracks _ _).length; rw [length_turnAt]; exact h.feed, h.feeds, h.effect, fun i x hx => ?_, h.effects⟩
    have hx : (turnAt s.fTracks e.fTrack.toNat fun x => (⟨editL x.fClips e⟩ : GTrack))[i]? = some x := hx
    rw [hget] at hx
    cases hg : s.fTracks[i]? with
    | none => rw [hg] at hx; cases hx
    | some x0 =>
      rw [hg] at hx
      simp only [Option.map_some] at hx
      injection hx with hx
      obtain ⟨h1, h2⟩ := h.tracks i x0 hg
      by_cases hi : i = e.fTrack.toNat
      · rw [if_pos hi] at hx
        rw [hi] at hg
        rw [ht] at hg
        injection hg with hg
        subst hg hx
        refine ⟨g, fun j c hc => ?_⟩
        rcases editL_mem (List.mem_of_getElem? hc) with hm | ⟨rfl, hk⟩
        · exact Each.of_mem.1 h2 c hm
        · exact hs hk
      · rw [if_neg hi] at hx
        subst hx
        exact ⟨h1, h2⟩
end
theorem fieldsB_new {e : GEdit} (h : e.fKind = 1 ∨ e.fKind = 3) : tf (FieldsOk e) = (decide (e.fValue = 0) && tf (ClipOk e.fNew)) := by
  unfold FieldsOk; rw [if_pos h, ← tf_and, tf_dec]
theorem fieldsB_rem {e : GEdit} (h : e.fKind = 2) : tf (FieldsOk e) = (decide (e.fValue = 0) && decide (e.fNew = noClip)) := by
  unfold FieldsOk; rw [if_neg (by omega), if_pos h, ← tf_and, tf_dec, tf_dec]
theorem fieldsB_feed {e : GEdit} (h : e.fKind = 4) : tf (FieldsOk e) = (decide (e.fClip = 0) && decide (e.fNew = noClip)) := by
  unfold FieldsOk; rw [if_neg (by omega), if_neg (by omega), if_pos h, ← tf_and, tf_dec, tf_dec]
theorem fieldsB_send {e : GEdit} (h : e.fKind = 5) : tf (FieldsOk e) = decide (e.fNew = noClip) := by
  unfold FieldsOk; rw [if_neg (by omega), if_neg (by omega), if_neg (by omega), if_pos h, tf_dec]
theorem fieldsB_none {e : GEdit} (h : ¬ (e.fKind = 1 ∨ e.fKind = 3)) (h2 : e.fKind ≠ 2) (h4 : e.fKind ≠ 4) (h5 : e.fKind ≠ 5) : tf (FieldsOk e) = false := by
  unfold FieldsOk; rw [if_neg h, if_neg h2, if_neg h4, if_neg h5]; exact tf_no (fun h => h)
section
variable {s : GSession} {e : GEdit}
theorem rangeB_send (h : e.fKind = 5) : tf (RangeOk s e) = (inB e.fTrack 0 ((s.fMixer.fStrips.length : Int) - 1) && (inB e.fClip 0 (((sendsAt s e.fTrack).length : Int) - 1) && decide (Smp e.fValue))) := by
  unfold RangeOk; rw [if_pos h, ← tf_and, ← tf_and, tf_dec, tf_dec, tf_dec]; simp
theorem rangeB_out (h : e.fKind ≠ 5) (ht : inB e.fTrack 0 ((s.fTracks.length : Int) - 1) = false) : tf (RangeOk s e) = false := by
  unfold RangeOk; rw [if_neg h]; exact tf_no (fun k => by rw [ht] at k; exact absurd k.1 (by simp))
theorem rangeB_ins (h : e.fKind = 1) (ht : inB e.fTrack 0 ((s.fTracks.length : Int) - 1) = true) : tf (RangeOk s e) = (inB e.fClip 0 ((clipsAt s e.fTrack).length : Int) && decide (e.fNew.fSource < (s.fSources.length : Int))) := by
  unfold RangeOk; rw [if_neg (by omega), if_pos h, ← tf_and, ← tf_and, tf_dec, tf_dec, tf_dec, ht]; simp
theorem rangeB_rep (h : e.fKind = 3) (ht : inB e.fTrack 0 ((s.fTracks.length : Int) - 1) = true) : tf (RangeOk s e) = (inB e.fClip 0 (((clipsAt s e.fTrack).length : Int) - 1) && decide (e.fNew.fSource < (s.fSources.length : Int))) := by
  unfold RangeOk; rw [if_neg (by omega), if_neg (by omega), if_pos h, ← tf_and, ← tf_and, tf_dec, tf_dec, tf_dec, ht]; simp
theorem rangeB_rem (h : e.fKind = 2) (ht : inB e.fTrack 0 ((s.fTracks.length : Int) - 1) = true) : tf (RangeOk s e) = inB e.fClip 0 (((clipsAt s e.fTrack).length : Int) - 1) := by
  unfold RangeOk; rw [if_neg (by omega), if_neg (by omega), if_neg (by omega), if_pos h, ← tf_and, tf_dec, tf_dec, ht]; simp
theorem rangeB_feed (h5 : e.fKind ≠ 5) (h1 : e.fKind ≠ 1) (h2 : e.fKind ≠ 2) (h3 : e.fKind ≠ 3) (ht : inB e.fTrack 0 ((s.fTracks.length : Int) - 1) = true) : tf (RangeOk s e) = inB e.fValue 0 ((s.fMixer.fStrips.length : Int) - 1) := by
  unfold RangeOk; rw [if_neg h5, if_neg h1, if_neg h3, if_neg h2, ← tf_and, tf_dec, tf_dec, ht]; simp
end
end Go.Proofs.YtajoaflfjilhmaaGreat
end
section
namespace Go.Proofs.YtajoaflfjilhmaaGreat
open Go.RowKit
def clipAt (s : GSession) (e : GEdit) : GClip := (clipsAt s e.fTrack).getD e.fClip.toNat noClip
section
variable {s : GSession} {e : GEdit}
theorem applyF_ok (h : (applyF s e).2 = 0) : SessionOk s ∧ FieldsOk e ∧ RangeOk s e ∧ ¬ (e.fKind = 1 ∧ 12 ≤ (clipsAt s e.fTrack).length) ∧ SessionOk (doE s e) ∧ (applyF s e).1 = doE s e := by
  unfold applyF at h ⊢
  by_cases h1 : tf (SessionOk s ∧ FieldsOk e) = true
  · rw [if_pos h1] at h ⊢
    by_cases h2 : tf (RangeOk s e) = true
    · rw [if_pos h2] at h ⊢
      by_cases h3 : e.fKind = 1 ∧ 12 ≤ (clipsAt s e.fTrack).length
      · rw [if_pos h3] at h
        exact absurd h (by decide)
      · rw [if_neg h3] at h ⊢
        by_cases h4 : tf (SessionOk (doE s e)) = true
        · rw [if_pos h4]
          exact ⟨(tf_true.1 h1).1, (tf_true.1 h1).2, tf_true.1 h2, h3, tf_true.1 h4, rfl⟩
        · rw [if_neg h4] at h
          exact absurd h (by decide)
    · rw [if_neg h2] at h
      exact absurd h (by decide)
  · rw [if_neg h1] at h
    exact absurd h (by decide)
theorem applyF_of (h1 : SessionOk s) (h2 : FieldsOk e) (h3 : RangeOk s e) (h4 : ¬ (e.fKind = 1 ∧ 12 ≤ (clipsAt s e.fTrack).length)) (h5 : SessionOk (doE s e)) : applyF s e = (doE s e, 0) := by
  unfold applyF
  rw [if_pos (tf_yes ⟨h1, h2⟩), if_pos (tf_yes h3), if_neg h4, if_pos (tf_yes h5)]
theorem range_track (h : RangeOk s e) (h5 : e.fKind ≠ 5) : ∃ k t, e.fTrack = ((k : Nat) : Int) ∧ s.fTracks[k]? = some t := by
  unfold RangeOk at h
  rw [if_neg h5] at h
  have := inB_true.1 h.1
  refine ⟨e.fTrack.toNat, s.fTracks[e.fTrack.toNat]'(by omega), by omega, List.getElem?_eq_getElem _⟩
theorem doE_kind (s : GSession) (e : GEdit) (h4 : e.fKind ≠ 4) (h5 : e.fKind ≠ 5) : doE s e = { s with fTracks := turnAt s.fTracks e.fTrack.toNat fun x => ⟨editL x.fClips e⟩ } := by
  unfold doE
  rw [if_neg h4, if_neg h5]
end
end Go.Proofs.YtajoaflfjilhmaaGreat
end
section
namespace Go.Proofs.YtajoaflfjilhmaaGreat
open Go.RowKit
/-- The state of a node at the beginning. -/
def startL (x : GNode) : List Int :=
  if x.fKind = 6 then List.replicate x.fA.toNat 0
  else if x.fKind = 17 then List.replicate x.fB.toNat 0
  else if x.fKind = 7 ∨ x.fKind = 8 ∨ x.fKind = 16 then [0]
  else if x.fKind = 12 ∨ x.fKind = 14 then [x.fA]
  else []
def statefulB (p : GPatch) : Bool := p.fNodes.any fun x => decide (0 < (startL x).length)
def effectAt (s : GSession) (j : Int) : GPatch := (s.fEffects[j.toNat]?).getD noPatch
/-- An effect with a state is in a strip or in one that it reaches. -/
inductive Ring (s : GSession) : Int → Prop
  | own {j : Int} : statefulB (effectAt s j) = true → Ring s j
  | send {j : Int} {x : GSend} : x ∈ sendsAt s j → Ring s x.fTo → Ring s j
theorem ring_iff {s : GSession} {j : Int} : Ring s j ↔ statefulB (effectAt s j) = true ∨ ∃ x ∈ sendsAt s j, Ring s x.fTo := by
  constructor
  · intro h
    cases h with
    | own h => exact .inl h
    | send h1 h2 => exact .inr ⟨_, h1, h2⟩
  · rintro (h | ⟨x, h1, h2⟩)
    · exact .own h
    · exact .send h1 h2
/-- The strips that are concerned, the first i of them looked through. -/
structure Conc (s : GSession) (R : Prop) (st : Int → Prop) (C : List Bool) (i : Nat) : Prop where
  reach : ∀ k : Nat, C[k]? = some true → Ring s (k : Int) → R
  start : ∀ j : Int, st j → C[j.toNat]? = some true
  done : ∀ k : Nat, k < i → C[k]? = some true → statefulB (effectAt s (k : Int)) = false ∧ ∀ x ∈ sendsAt s (k : Int), C[x.fTo.toNat]? = some true
section
variable {s : GSession} {R : Prop} {st : Int → Prop} {C : List Bool} {i : Nat}
/-- One that is not concerned is passed. -/
theorem Conc.skip (h : Conc s R st C i) (hi : C[i]? = some false) : Conc s R st C (i + 1) :=
  ⟨h.reach, h.start, fun k hk hc => by
    by_cases e : k = i
    · subst e; rw [hi] at hc; exact absurd hc (by simp)
    · exact h.done k (by omega) hc⟩
/-- More of them are concerned: the targets of one that is. -/
theorem Conc.mark (h : Conc s R st C i) (hi : C[i]? = some true) {x : GSend} (hx : x ∈ sendsAt s (i : Int)) (hp : (i : Int) < x.fTo) (hl : x.fTo.toNat < C.length) : Conc s R st (C.set x.fTo.toNat true) i := by
  have hs : ∀ k : Nat, C[k]? = some true → (C.set x.fTo.toNat true)[k]? = some true := fun k hk => by
    rw [List.getElem?_set]
    split
    · first
        | rfl
        | (split
           · rfl
           · next e1 e2 => exact absurd hl e2)
    · exact hk
  refine ⟨fun k hk hr => ?_, fun j hj => hs _ (h.start j hj), fun k hk hc => ?_⟩
  · rw [List.getElem?_set] at hk
    split at hk
    · next e =>
      have e2 : (k : Int) = x.fTo := by omega
      rw [e2] at hr
      exact h.reach i hi (.send hx hr)
    · exact h.reach k hk hr
  · rw [List.getElem?_set] at hc
    split at hc
    · next e => omega
    · obtain ⟨h1, h2⟩ := h.done k hk hc
      exact ⟨h1, fun y hy => hs _ (h2 y hy)⟩
theorem Conc.step (h : Conc s R st C i) (h1 : statefulB (effectAt s (i : Int)) = false) (h2 : ∀ x ∈ sendsAt s (i : Int), C[x.fTo.toNat]? = some true) : Conc s R st C (i + 1) :=
  ⟨h.reach, h.start, fun k hk hc => by
    by_cases e : k = i
    · subst e; exact ⟨h1, h2⟩
    · exact h.done k (by omega) hc⟩
theorem Conc.found (h : Conc s R st C i) (hi : C[i]? = some true) (h1 : statefulB (effectAt s (i : Int)) = true) : R := h.reach i hi (.own h1)
theorem Conc.none (h : Conc s R st C i) (hl : C.length ≤ i) (hst : ∀ j, st j → 0 ≤ j) (hto : ∀ k : Nat, ∀ x ∈ sendsAt s (k : Int), 0 ≤ x.fTo) : ∀ j, st j → ¬ Ring s j := by
  have key : ∀ j, Ring s j → 0 ≤ j → C[j.toNat]? = some true → False := by
    intro j hr
    induction hr with
    | @own j hs =>
      intro hj hc
      have hk := (List.getElem?_eq_some_iff.1 hc).1
      have := (h.done j.toNat (by omega) hc).1
      rw [show ((j.toNat : Nat) : Int) = j by omega, hs] at this
      exact absurd this (by simp)
    | @send j x hx _ ih =>
      intro hj hc
      have hk := (List.getElem?_eq_some_iff.1 hc).1
      have hx2 : x ∈ sendsAt s ((j.toNat : Nat) : Int) := by rw [show ((j.toNat : Nat) : Int) = j by omega]; exact hx
      exact ih (hto _ x hx2) ((h.done j.toNat (by omega) hc).2 x hx2)
  exact fun j hj hr => key j hr (hst j hj) (h.start j hj)
end
/-- The least beginning and the greatest end of clips. -/
def lowF (a : Int) (l : List GClip) : Int := l.foldl (fun a c => min a c.fAt) a
def highF (b : Int) (l : List GClip) : Int := l.foldl (fun b c => max b (c.fAt + c.fLength)) b
theorem lowF_snoc (a : Int) (l : List GClip) (c : GClip) : lowF a (l ++ [c]) = min (lowF a l) c.fAt := by simp [lowF]
theorem highF_snoc (b : Int) (l : List GClip) (c : GClip) : highF b (l ++ [c]) = max (highF b l) (c.fAt + c.fLength) := by simp [highF]
theorem lowF_le : ∀ (l : List GClip) (a : Int), lowF a l ≤ a
  | [], a => Int.le_refl _
  | c :: r, a => Int.le_trans (lowF_le r (min a c.fAt)) (Int.min_le_left _ _)
theorem highF_ge : ∀ (l : List GClip) (b : Int), b ≤ highF b l
  | [], b => Int.le_refl _
  | c :: r, b => Int.le_trans (Int.le_max_left _ _) (highF_ge r (max b (c.fAt + c.fLength)))
def spanF (l : List GClip) : Int × Int := match l with
  | [] => (0, 0)
  | c :: r => (lowF c.fAt (c :: r), highF 0 (c :: r))
theorem spanF_lt {c : GClip} {r : List GClip} (h : 1 ≤ c.fLength) : (spanF (c :: r)).1 < (spanF (c :: r)).2 := by
  show lowF c.fAt (c :: r) < highF 0 (c :: r)
  have h1 := lowF_le (c :: r) c.fAt
  have h2 : max 0 (c.fAt + c.fLength) ≤ highF 0 (c :: r) := highF_ge r (max 0 (c.fAt + c.fLength))
  omega
theorem spanF_swap (a b : GClip) : spanF [a, b] = spanF [b, a] := by
  unfold spanF lowF highF
  simp only [List.foldl_cons, List.foldl_nil]
  congr 1 <;> omega
/-- The clips that an edit removes and adds, or moves to another strip. -/
def changedL (s : GSession) (e : GEdit) : List GClip :=
  if e.fKind = 1 then [e.fNew] else if e.fKind = 2 then [clipAt s e] else if e.fKind = 3 then [clipAt s e, e.fNew]
  else if e.fValue = s.fFeeds.getD e.fTrack.toNat 0 then [] else clipsAt s e.fTrack
def Lasting (s : GSession) (e : GEdit) : Prop := Ring s (s.fFeeds.getD e.fTrack.toNat 0) ∨ (e.fKind = 4 ∧ Ring s e.fValue)
noncomputable def rangeOf (s : GSession) (e : GEdit) : Int × Int :=
  if e.fKind = 5 then (0, s.fLength)
  else if changedL s e = [] then (0, 0)
  else if (spanF (changedL s e)).1 < min (if tf (Lasting s e) = true then s.fLength else (spanF (changedL s e)).2) s.fLength then
    ((spanF (changedL s e)).1, min (if tf (Lasting s e) = true then s.fLength else (spanF (changedL s e)).2) s.fLength)
  else (0, 0)
noncomputable def dirtyF (s : GSession) (e : GEdit) : Int × Int × Int :=
  if (applyF s e).2 = 0 then ((rangeOf s e).1, (rangeOf s e).2, 0) else (0, 0, (applyF s e).2)
end Go.Proofs.YtajoaflfjilhmaaGreat
end
section
namespace Go.Proofs.YtajoaflfjilhmaaGreat
open Go.RowKit
theorem T.rd_openG {w : World} {E : TypeId} {sz : Nat} {α : Type} {tr : α → T} {xs : List α} {v : Value} (h : T.rd w (.sl E sz (xs.map tr)) [v]) :
    ∃ A cap, v = .slice A xs.length cap ∧ xs.length ≤ cap ∧ cap ≤ 9223372036854775807 ∧
      (∀ k x, xs[k]? = some x → ∃ b off cs, A = some ⟨b, off, none⟩ ∧ b < w.heap.size ∧ T.rd w (tr x) cs ∧ ∀ j u, cs[j]? = some u → w.cell? ⟨b, off + (k * sz + j), none⟩ = some u) := by
  obtain ⟨A, cap, hv, h1, h2, h3⟩ := T.rd_open h
  rw [List.length_map] at hv h1
  exact ⟨A, cap, hv, h1, h2, fun k x hk => h3 k (tr x) (by rw [List.getElem?_map, hk]; rfl)⟩
theorem T.rds_below' {w w' : World} {x : List T} {cs : List Value} (h : T.rds w x cs) (hb : Below w.heap.size w w') : T.rds w' x cs := T.rds_keep hb.size hb.block x cs h
/-- The struct's cells lie from place o of block b on. -/
def T.at (w : World) (fs : List T) (b o : Nat) : Prop := b < w.heap.size ∧ ∃ cs, T.rds w fs cs ∧ ∀ j u, cs[j]? = some u → w.cell? ⟨b, o + j, none⟩ = some u
theorem T.at_below {w w' : World} {fs : List T} {b o : Nat} (h : T.at w fs b o) (hb : Below w.heap.size w w') : T.at w' fs b o := by
  obtain ⟨h1, cs, h2, h3⟩ := h
  exact ⟨Nat.lt_of_lt_of_le h1 hb.size, cs, T.rds_below' h2 hb, fun j u hj => (hb.cell h1).trans (h3 j u hj)⟩
/-- An element of a slice, as a struct behind a pointer. -/
theorem T.at_elem {w : World} {fs : List T} {b off k sz o : Nat} {cs : List Value} (hb : b < w.heap.size) (h : T.rds w fs cs) (hc : ∀ j u, cs[j]? = some u → w.cell? ⟨b, off + (k * sz + j), none⟩ = some u) (ho : o = off + k * sz) : T.at w fs b o :=
  ⟨hb, cs, h, fun j u hj => by rw [ho, Nat.add_assoc]; exact hc j u hj⟩
/-- A block known whole, as a struct behind a pointer. -/
theorem T.at_bk {w : World} {fs : List T} {b : Nat} {t : TypeId} {cs : List Value} (hk : Bk w b t cs.toArray) (h : T.rds w fs cs) : T.at w fs b 0 :=
  ⟨hk.lt, cs, h, fun j u hj => by rw [Nat.zero_add, hk.cell j]; simpa using hj⟩
theorem beqI_f {a b : Int} (h : a ≠ b) : (a == b) = false := beq_false_of_ne h
theorem beqI_t {a b : Int} (h : a = b) : (a == b) = true := by simp [h]
theorem bneI_t {a b : Int} (h : a ≠ b) : (a != b) = true := by simp [h]
theorem bneI_f {a b : Int} (h : a = b) : (a != b) = false := by simp [h]
/-- Any world in which what lies in W still lies as it did. -/
noncomputable def bel (W u : World) : World := @ite _ (Below W.heap.size W u) (Classical.propDecidable _) u W
theorem bel_below (W u : World) : Below W.heap.size W (bel W u) := by
  unfold bel
  split
  · assumption
  · exact Below.refl _ _
theorem bel_of {W u : World} (h : Below W.heap.size W u) : u = bel W u := by
  unfold bel
  rw [if_pos h]
theorem bel_cell {W : World} {b o : Nat} {v : Value} (h : W.cell? ⟨b, o, none⟩ = some v) : ∀ u, (bel W u).cell? ⟨b, o, none⟩ = some v := fun u =>
  ((bel_below W u).cell (World.block_lt_of_cell? W _ h)).trans h
theorem bel_bk {W : World} {g : Nat} {t : TypeId} {cs : Array Value} (h : Bk W g t cs) : ∀ u i, (bel W u).cell? ⟨g, i, none⟩ = cs[i]? := fun u i =>
  (h.below (bel_below W u) h.lt).cell i
/-- A region that draws its order, whose operations and calls leave what was there as it was: one walk in the order of the text. -/
theorem wp_region_bel {P : Program} {id : Nat} {Q : Exit → Act → World → Prop} {a : Act} {w : World} {l : List Oper} (hm : P.follows .mixedOrders = true) (hB : Region.lexB .any l.toArray = true)
    (h : wpQuiet P l.toArray (fun w' => ∃ u, w' = bel w u) (fun a' => ∀ w', (∃ u, w' = bel w u) → Q .normal a' w') l a) : (Code.region id l.toArray true).wp P Q a w :=
  wp_region_quiet (C := fun w' => ∃ u, w' = bel w u) hm hB ⟨_, bel_of ⟨rfl, rfl, rfl, Nat.le_refl _, fun _ _ => rfl⟩⟩ (by simpa using h)
theorem Calls.quiet_bel {P : Program} {f : FuncId} {args : Array Value} {w u : World} {v : Value}
    (h : Calls P f args (bel w u) fun e w' => e = .returned v ∧ Below (bel w u).heap.size (bel w u) w') : Calls P f args (bel w u) fun e w'' => e = .returned v ∧ ∃ m, w'' = bel w m :=
  h.mono fun _ w' ⟨he, hb⟩ => ⟨he, w', bel_of (bthen (bel_below w u) (bel_below w u).size hb)⟩
theorem Calls.quiet_bel_same {P : Program} {f : FuncId} {args : Array Value} {w u : World} {v : Value}
    (h : Calls P f args (bel w u) fun e w' => e = .returned v ∧ bel w u = w') : Calls P f args (bel w u) fun e w'' => e = .returned v ∧ ∃ m, w'' = bel w m :=
  h.mono fun _ w' ⟨he, hb⟩ => ⟨he, u, hb.symm⟩
end Go.Proofs.YtajoaflfjilhmaaGreat
end
