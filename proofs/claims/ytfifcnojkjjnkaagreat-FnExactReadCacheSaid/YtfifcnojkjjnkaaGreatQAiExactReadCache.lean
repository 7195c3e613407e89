/- What valid sessions and caches are, in plain words. Words: a slice of elements opened; a struct behind a pointer. Contracts: wrapped numbers, copies, differences. Contracts: differences of an order; PredictSignal of both sides. Contracts: what is valid, by the program: lists, clips, names, sends. Contracts: check values, two bytes, the head of a store. -/
import Derived.Test.YtfifcnojkjjnkaaGreatQAcExactReadCache
import Derived.Test.YtfifcnojkjjnkaaGreatQAaExactReadCache
import Derived.Test.YtfifcnojkjjnkaaGreatQAeExactReadCache
import Derived.Deep.RegionWith
import Derived.Deep.RegionHeld3
set_option linter.unusedVariables false
set_option linter.unusedSimpArgs false
section
namespace Go.Proofs.YtfifcnojkjjnkaaGreat
open Go.RowKit
noncomputable def tf (p : Prop) : Bool := @decide p (Classical.propDecidable p)
theorem tf_yes {p : Prop} (h : p) : tf p = true := by unfold tf; exact @decide_eq_true p (Classical.propDecidable p) h
theorem tf_no {p : Prop} (h : ¬ p) : tf p = false := by unfold tf; exact @decide_eq_false p (Classical.propDecidable p) h
theorem tf_iff {p q : Prop} (h : p ↔ q) : tf p = tf q := by rw [propext h]
theorem tf_dec {p : Prop} [d : Decidable p] : tf p = decide p := by
  by_cases h : p
  · rw [tf_yes h, decide_eq_true h]
  · rw [tf_no h, decide_eq_false h]
/-- The first k elements are right; all are. -/
def Upto {α : Type} (xs : List α) (Q : Nat → α → Prop) (k : Nat) : Prop := ∀ i x, i < k → xs[i]? = some x → Q i x
def Each {α : Type} (xs : List α) (Q : Nat → α → Prop) : Prop := ∀ i x, xs[i]? = some x → Q i x
section
variable {α : Type} {xs : List α} {Q : Nat → α → Prop} {k : Nat} {x : α}
theorem Upto.zero : Upto xs Q 0 := fun i _ h => absurd h (Nat.not_lt_zero i)
theorem Upto.step (h : Upto xs Q k) (hx : xs[k]? = some x) (q : Q k x) : Upto xs Q (k + 1) := by
  intro i y hi hy
  by_cases e : i = k
  · subst e
    rw [hx] at hy
    injection hy with hy
    subst hy
    exact q
  · exact h i y (by omega) hy
theorem Upto.all (h : Upto xs Q k) (hk : xs.length ≤ k) : Each xs Q := fun i y hy => h i y (Nat.lt_of_lt_of_le (List.getElem?_eq_some_iff.1 hy).1 hk) hy
theorem Each.of_mem {P : α → Prop} : Each xs (fun _ y => P y) ↔ ∀ y ∈ xs, P y := by
  constructor
  · intro h y hy
    obtain ⟨i, hi, rfl⟩ := List.mem_iff_getElem.1 hy
    exact h i _ (List.getElem?_eq_getElem hi)
  · intro h i y hy
    exact h y (List.mem_of_getElem? hy)
end
/-- Numbers from 0 on and below n. -/
def Idx (l : List Int) (n : Int) : Prop := Each l fun _ x => 0 ≤ x ∧ x ≤ n - 1
structure ClipOk (c : GClip) : Prop where
  source : inB c.fSource 0 5 = true
  length : inB c.fLength 1 4000 = true
  from_ : inB c.fFrom 0 (4000 - c.fLength) = true
  at_ : inB c.fAt 0 (4000 - c.fLength) = true
  gain : Smp c.fGain
structure TrackOk (t : GTrack) : Prop where
  clips : Each t.fClips fun i c => ClipOk c ∧ ∀ p, 0 < i → t.fClips[i - 1]? = some p → p.fAt ≤ c.fAt
  few : t.fClips.length ≤ 12
def befS (l : List GSend) (strip : Int) (i : Nat) : Int := if i = 0 then strip else (l.getD (i - 1) ⟨0, 0⟩).fTo
structure SendsOk (l : List GSend) (strip n : Int) : Prop where
  each : Each l fun i x => inB x.fTo (befS l strip i + 1) (n - 1) = true ∧ Smp x.fGain
  last : strip = n - 1 → l.length = 0
  few : strip ≠ n - 1 → 1 ≤ l.length ∧ l.length ≤ 4
def smallN (c : Nat) : Prop := 97 ≤ c ∧ c ≤ 122
def digitN (c : Nat) : Prop := 48 ≤ c ∧ c ≤ 57
structure NameOk (s : ByteArray) : Prop where
  some_ : 1 ≤ s.size
  few : s.size ≤ 10
  each : ∀ i, i < s.size → smallN (bA s i) ∨ (digitN (bA s i) ∧ i ≠ 0)
structure StripOk (x : GStrip) (i n : Int) : Prop where
  name : NameOk x.fName
  latency : inB x.fLatency 0 32 = true
  sends : SendsOk x.fSends i n
structure MixerOk (m : GMixer) : Prop where
  some_ : 1 ≤ m.fStrips.length
  few : m.fStrips.length ≤ 8
  each : Each m.fStrips fun i x => StripOk x (i : Int) (m.fStrips.length : Int) ∧ ∀ j y, j < i → m.fStrips[j]? = some y → y.fName ≠ x.fName
structure SourcesOk (ss : List (List Int)) : Prop where
  each : Each ss fun _ l => sigB l = true
  few : ss.length ≤ 6
structure TablesOk (ts : List (List Int)) : Prop where
  each : Each ts fun _ t => (t.length = 2 ∨ t.length = 4 ∨ t.length = 8 ∨ t.length = 16) ∧ smpB t = true
  few : ts.length ≤ 4
/-- What is known of a kind of nodes: its inputs, the range of A (none if the first is greater), whether it has B. -/
structure Knd where
  inputs : Int
  low : Int
  high : Int
  linear : Bool
  hasB : Bool
def kndL : List Knd := [⟨0, 0, 3, true, false⟩, ⟨0, -2147483648, 2147483647, false, false⟩, ⟨2, 1, 0, true, false⟩, ⟨2, 1, 0, true, false⟩, ⟨1, -2147483648, 2147483647, true, false⟩, ⟨1, 1, 16, true, false⟩, ⟨1, 1, 0, true, false⟩, ⟨1, 1, 0, true, false⟩, ⟨2, 1, 0, false, false⟩, ⟨1, 0, 31, false, false⟩, ⟨1, 0, 2147483647, false, false⟩, ⟨1, -2147483648, 2147483647, false, false⟩, ⟨1, 0, 3, false, false⟩, ⟨0, -2147483648, 2147483647, false, false⟩, ⟨3, 1, 0, false, false⟩, ⟨2, 1, 0, false, false⟩, ⟨1, -2147483648, 2147483647, true, true⟩]
def kndF (k : Int) : Knd := kndL.getD (k - 1).toNat ⟨0, 0, 0, false, false⟩
structure NodeOk (x : GNode) (tables : Int) : Prop where
  kind : inB x.fKind 1 17 = true
  a : if (kndF x.fKind).low ≤ (kndF x.fKind).high then inB x.fA (kndF x.fKind).low (kndF x.fKind).high = true else x.fA = 0
  b : if (kndF x.fKind).hasB then inB x.fB 1 16 = true else x.fB = 0
  from_ : Each x.fFrom fun _ f => inB f 0 23 = true
  arity : (x.fFrom.length : Int) = (kndF x.fKind).inputs
  table : x.fKind = 13 → x.fA < tables
structure FormedOk (p : GPatch) : Prop where
  inputs : inB p.fInputs 0 4 = true
  tables : TablesOk p.fTables
  few : p.fNodes.length ≤ 24
  outs : p.fOutputs.length ≤ 4
  outputs : Idx p.fOutputs (p.fNodes.length : Int)
  nodes : Each p.fNodes fun _ x => NodeOk x (p.fTables.length : Int) ∧ Idx x.fFrom (p.fNodes.length : Int) ∧ (x.fKind = 1 → x.fA < p.fInputs)
/-- The nodes that a node waits for. -/
def waitsF (x : GNode) : List Int := if x.fKind = 6 then [] else x.fFrom
def readyB (nodes : List GNode) (out : List Int) (i : Nat) : Bool := !out.contains (i : Int) && ((nodes[i]?).map fun x => (waitsF x).all fun f => out.contains f).getD false
def nextF (nodes : List GNode) (out : List Int) : Option Nat := (List.range nodes.length).find? (readyB nodes out)
/-- The order in which nodes are computed: the first steps. -/
def ordNodes (nodes : List GNode) : Nat → List Int
  | 0 => []
  | k + 1 => match nextF nodes (ordNodes nodes k) with
    | some i => ordNodes nodes k ++ [(i : Int)]
    | none => ordNodes nodes k
def orderF (nodes : List GNode) : List Int := ordNodes nodes nodes.length
theorem ordNodes_stop {nodes : List GNode} {k : Nat} (h : nextF nodes (ordNodes nodes k) = none) : ∀ m, ordNodes nodes (k + m) = ordNodes nodes k := by
  intro m
  induction m with
  | zero => rfl
  | succ m ih =>
    rw [← Nat.add_assoc]
    simp only [ordNodes]
    rw [ih, h]
theorem nextF_some {nodes : List GNode} {out : List Int} {i : Nat} (hi : i < nodes.length) (hr : readyB nodes out i = true) (hb : ∀ j, j < i → readyB nodes out j = false) : nextF nodes out = some i := by
  unfold nextF
  rw [List.find?_eq_some_iff_getElem]
  refine ⟨hr, i, by simpa using hi, by simp, fun j hj => by simp [hb j hj]⟩
theorem nextF_none {nodes : List GNode} {out : List Int} (hb : ∀ j, j < nodes.length → readyB nodes out j = false) : nextF nodes out = none := by
  unfold nextF
  rw [List.find?_eq_none]
  intro j hj
  simp [hb j (by simpa using hj)]
theorem nextF_inv {nodes : List GNode} {out : List Int} {i : Nat} (h : nextF nodes out = some i) : i < nodes.length ∧ readyB nodes out i = true := by
  unfold nextF at h
  exact ⟨by simpa using List.mem_of_find?_eq_some h, List.find?_some h⟩
theorem ordNodes_in {nodes : List GNode} : ∀ k, (ordNodes nodes k).Nodup ∧ ∀ x ∈ ordNodes nodes k, 0 ≤ x ∧ x < (nodes.length : Int)
  | 0 => by simp [ordNodes]
  | k + 1 => by
    obtain ⟨h1, h2⟩ := ordNodes_in (nodes := nodes) k
    simp only [ordNodes]
    split
    · next i h =>
      obtain ⟨hi, hr⟩ := nextF_inv h
      have hn : (i : Int) ∉ ordNodes nodes k := by
        simp only [readyB, Bool.and_eq_true, Bool.not_eq_true'] at hr
        simpa using hr.1
      refine ⟨?_, ?_⟩
      · rw [List.nodup_append]
        refine ⟨h1, by simp, fun a ha b hb e => ?_⟩
        simp at hb
        subst hb e
        exact hn ha
      · intro x hx
        rcases List.mem_append.1 hx with hx | hx
        · exact h2 x hx
        · simp at hx; subst hx; omega
    · exact ⟨h1, h2⟩
theorem nodup_range : ∀ (n : Nat) (l : List Nat), l.Nodup → (∀ x ∈ l, x < n) → l.length ≤ n
  | 0, [], _, _ => Nat.le_refl _
  | 0, x :: _, _, h => absurd (h x (by simp)) (by omega)
  | n + 1, l, h1, h2 => by
    by_cases hm : n ∈ l
    · have h3 := nodup_range n (l.erase n) (h1.erase n) (fun x hx => by
        have := (h1.mem_erase_iff).1 hx
        have h4 := h2 x this.2
        have h5 := this.1
        omega)
      rw [List.length_erase_of_mem hm] at h3
      omega
    · have h3 := nodup_range n l h1 (fun x hx => by
        have h4 := h2 x hx
        have : x ≠ n := fun e => hm (e ▸ hx)
        omega)
      omega
theorem nodup_bound {n : Nat} {l : List Int} (h1 : l.Nodup) (h2 : ∀ x ∈ l, 0 ≤ x ∧ x < (n : Int)) : l.length ≤ n := by
  have h3 : (l.map Int.toNat).Nodup := by
    rw [List.Nodup, List.pairwise_map]
    refine List.Pairwise.imp_of_mem ?_ h1
    intro a b ha hb hab e
    have := h2 a ha
    have := h2 b hb
    omega
  have := nodup_range n _ h3 (fun x hx => by
    obtain ⟨y, hy, rfl⟩ := List.mem_map.1 hx
    have := h2 y hy
    omega)
  simpa using this
theorem ordNodes_cap {nodes : List GNode} (k : Nat) : (ordNodes nodes k).length ≤ nodes.length := nodup_bound (ordNodes_in k).1 (ordNodes_in k).2
/-- Where the order stops, it has stopped for good. -/
theorem orderF_of_stop {nodes : List GNode} {k : Nat} (h : nextF nodes (ordNodes nodes k) = none) (hk : (ordNodes nodes k).length = k) : orderF nodes = ordNodes nodes k := by
  have hc := ordNodes_cap (nodes := nodes) k
  unfold orderF
  rw [show nodes.length = k + (nodes.length - k) by omega]
  exact ordNodes_stop h _
theorem ordNodes_snoc {nodes : List GNode} {k i : Nat} (h : nextF nodes (ordNodes nodes k) = some i) : ordNodes nodes (k + 1) = ordNodes nodes k ++ [(i : Int)] := by
  simp only [ordNodes, h]
structure PatchOk (p : GPatch) : Prop where
  formed : FormedOk p
  order : (orderF p.fNodes).length = p.fNodes.length
def noPatch : GPatch := ⟨0, [], [], []⟩
def EffectOk (p : GPatch) : Prop := p = noPatch ∨ (PatchOk p ∧ p.fInputs = 1 ∧ p.fOutputs.length = 1)
structure SessionOk (s : GSession) : Prop where
  length : inB s.fLength 0 1000 = true
  sources : SourcesOk s.fSources
  few : s.fTracks.length ≤ 6
  mixer : MixerOk s.fMixer
  feed : s.fFeeds.length = s.fTracks.length
  feeds : Idx s.fFeeds (s.fMixer.fStrips.length : Int)
  effect : s.fEffects.length = s.fMixer.fStrips.length
  tracks : Each s.fTracks fun _ t => TrackOk t ∧ Each t.fClips fun _ c => c.fSource < (s.fSources.length : Int)
  effects : Each s.fEffects fun _ p => EffectOk p
def blocksF (n : Int) : Int := (n + 15) / 16
structure CacheOk (c : GCache) : Prop where
  session : SessionOk c.fSession
  length : (c.fMix.length : Int) = c.fSession.fLength
  mix : smpB c.fMix = true
  dirty : Each c.fDirty fun i b => (0 ≤ b ∧ b ≤ blocksF c.fSession.fLength - 1) ∧ ∀ p, 0 < i → c.fDirty[i - 1]? = some p → p < b
end Go.Proofs.YtfifcnojkjjnkaaGreat
end
section
namespace Go.Proofs.YtfifcnojkjjnkaaGreat
open Go.RowKit
theorem T.rd_openG {w : World} {E : TypeId} {sz : Nat} {α : Type} {tr : α → T} {xs : List α} {v : Value} (h : T.rd w (.sl E sz (xs.map tr)) [v]) :
    ∃ A cap, v = .slice A xs.length cap ∧ xs.length ≤ cap ∧ cap ≤ 9223372036854775807 ∧
      (∀ k x, xs[k]? = some x → ∃ b off cs, A = some ⟨b, off, none⟩ ∧ b < w.heap.size ∧ T.rd w (tr x) cs ∧ ∀ j u, cs[j]? = some u → w.cell? ⟨b, off + (k * sz + j), none⟩ = some u) := by
  obtain ⟨A, cap, hv, h1, h2, h3⟩ := T.rd_open h
  rw [List.length_map] at hv h1
  exact ⟨A, cap, hv, h1, h2, fun k x hk => h3 k (tr x) (by rw [List.getElem?_map, hk]; rfl)⟩
theorem T.rds_below' {w w' : World} {x : List T} {cs : List Value} (h : T.rds w x cs) (hb : Below w.heap.size w w') : T.rds w' x cs := T.rds_keep hb.size hb.block x cs h
/-- The struct's cells lie from place o of block b on. -/
def T.at (w : World) (fs : List T) (b o : Nat) : Prop := b < w.heap.size ∧ ∃ cs, T.rds w fs cs ∧ ∀ j u, cs[j]? = some u → w.cell? ⟨b, o + j, none⟩ = some u
theorem T.at_below {w w' : World} {fs : List T} {b o : Nat} (h : T.at w fs b o) (hb : Below w.heap.size w w') : T.at w' fs b o := by
  obtain ⟨h1, cs, h2, h3⟩ := h
  exact ⟨Nat.lt_of_lt_of_le h1 hb.size, cs, T.rds_below' h2 hb, fun j u hj => (hb.cell h1).trans (h3 j u hj)⟩
/-- An element of a slice, as a struct behind a pointer. -/
theorem T.at_elem {w : World} {fs : List T} {b off k sz o : Nat} {cs : List Value} (hb : b < w.heap.size) (h : T.rds w fs cs) (hc : ∀ j u, cs[j]? = some u → w.cell? ⟨b, off + (k * sz + j), none⟩ = some u) (ho : o = off + k * sz) : T.at w fs b o :=
  ⟨hb, cs, h, fun j u hj => by rw [ho, Nat.add_assoc]; exact hc j u hj⟩
/-- A block known whole, as a struct behind a pointer. -/
theorem T.at_bk {w : World} {fs : List T} {b : Nat} {t : TypeId} {cs : List Value} (hk : Bk w b t cs.toArray) (h : T.rds w fs cs) : T.at w fs b 0 :=
  ⟨hk.lt, cs, h, fun j u hj => by rw [Nat.zero_add, hk.cell j]; simpa using hj⟩
theorem beqI_f {a b : Int} (h : a ≠ b) : (a == b) = false := beq_false_of_ne h
theorem beqI_t {a b : Int} (h : a = b) : (a == b) = true := by simp [h]
theorem bneI_t {a b : Int} (h : a ≠ b) : (a != b) = true := by simp [h]
theorem bneI_f {a b : Int} (h : a = b) : (a != b) = false := by simp [h]
/-- Any world in which what lies in W still lies as it did. -/
noncomputable def bel (W u : World) : World := @ite _ (Below W.heap.size W u) (Classical.propDecidable _) u W
theorem bel_below (W u : World) : Below W.heap.size W (bel W u) := by
  unfold bel
  split
  · assumption
  · exact Below.refl _ _
theorem bel_of {W u : World} (h : Below W.heap.size W u) : u = bel W u := by
  unfold bel
  rw [if_pos h]
theorem bel_cell {W : World} {b o : Nat} {v : Value} (h : W.cell? ⟨b, o, none⟩ = some v) : ∀ u, (bel W u).cell? ⟨b, o, none⟩ = some v := fun u =>
  ((bel_below W u).cell (World.block_lt_of_cell? W _ h)).trans h
theorem bel_bk {W : World} {g : Nat} {t : TypeId} {cs : Array Value} (h : Bk W g t cs) : ∀ u i, (bel W u).cell? ⟨g, i, none⟩ = cs[i]? := fun u i =>
  (h.below (bel_below W u) h.lt).cell i
/-- A region that draws its order, whose operations and calls leave what was there as it was: one walk in the order of the text. -/
theorem wp_region_bel {P : Program} {id : Nat} {Q : Exit → Act → World → Prop} {a : Act} {w : World} {l : List Oper} (hm : P.follows .mixedOrders = true) (hB : Region.lexB .any l.toArray = true)
    (h : wpQuiet P l.toArray (fun w' => ∃ u, w' = bel w u) (fun a' => ∀ w', (∃ u, w' = bel w u) → Q .normal a' w') l a) : (Code.region id l.toArray true).wp P Q a w :=
  wp_region_quiet (C := fun w' => ∃ u, w' = bel w u) hm hB ⟨_, bel_of ⟨rfl, rfl, rfl, Nat.le_refl _, fun _ _ => rfl⟩⟩ (by simpa using h)
theorem Calls.quiet_bel {P : Program} {f : FuncId} {args : Array Value} {w u : World} {v : Value}
    (h : Calls P f args (bel w u) fun e w' => e = .returned v ∧ Below (bel w u).heap.size (bel w u) w') : Calls P f args (bel w u) fun e w'' => e = .returned v ∧ ∃ m, w'' = bel w m :=
  h.mono fun _ w' ⟨he, hb⟩ => ⟨he, w', bel_of (bthen (bel_below w u) (bel_below w u).size hb)⟩
theorem Calls.quiet_bel_same {P : Program} {f : FuncId} {args : Array Value} {w u : World} {v : Value}
    (h : Calls P f args (bel w u) fun e w' => e = .returned v ∧ bel w u = w') : Calls P f args (bel w u) fun e w'' => e = .returned v ∧ ∃ m, w'' = bel w m :=
  h.mono fun _ w' ⟨he, hb⟩ => ⟨he, u, hb.symm⟩
end Go.Proofs.YtfifcnojkjjnkaaGreat
end
section
namespace Go.Proofs.YtfifcnojkjjnkaaGreat
open Go.RowKit
end Go.Proofs.YtfifcnojkjjnkaaGreat
end
section
namespace Go.Proofs.YtfifcnojkjjnkaaGreat
open Go.RowKit
set_option maxHeartbeats 400000 in
theorem c_size (v : Value) (xs : List Int) (w : World) (hr : RdI w v xs) : Calls Tryz.prog 138 #[v] w fun e w' => e = .returned (.int .i64 (xs.length : Int)) ∧ w = w' := by
  obtain ⟨A, cap, rfl, hl, hc, hx⟩ := hr.open_
  clear hx hr
  go_enter Tryz.func138, Tryz.ntmps138
  go_wp2
  go_ret
  exact ⟨rfl, rfl⟩
end Go.Proofs.YtfifcnojkjjnkaaGreat
end
section
namespace Go.Proofs.YtfifcnojkjjnkaaGreat
open Go.RowKit
theorem inB_iff {n a b : Int} : inB n a b = true ↔ a ≤ n ∧ n ≤ b := by simp [inB]
theorem inB_not {n a b : Int} (h : inB n a b = false) (k : a ≤ n ∧ n ≤ b) : False := by simp [inB] at h; omega
set_option maxHeartbeats 2000000 in
set_option maxRecDepth 20000 in
theorem c_areIndices (v : Value) (xs : List Int) (n : Int) (w : World) (hr : RdI w v xs) (h0 : 0 ≤ n) (h1 : n ≤ 9223372036854775807) : Calls Tryz.prog 140 #[v, .int .i64 n] w fun e w' => e = .returned (.bool (tf (Idx xs n))) ∧ w = w' := by
  obtain ⟨A, cap, rfl, hl, hc, hx⟩ := hr.open_
  have HX := hide hx; clear hx hr
  go_enter Tryz.func140, Tryz.ntmps140
  go_wp2
  go_loop [9] (fun i => ∃ k : Nat, k ≤ xs.length ∧ i = .int .i64 k ∧ Upto xs (fun _ x => 0 ≤ x ∧ x ≤ n - 1) k) (fun i => xs.length - (intOf i).toNat)
  case atStart => exact ⟨0, Nat.zero_le _, rfl, Upto.zero⟩
  case round =>
    obtain ⟨k, hk, rfl, hs⟩ := hrel
    have HS := hide hs; clear hs
    by_cases hlt : k < xs.length
    · have hgk := List.getElem?_eq_getElem hlt
      obtain ⟨b, off, rfl, hb, hcell⟩ := HX.out k xs[k] hgk
      generalize xs[k] = x at *
      have HG := hide hgk; clear hgk
      by_cases hq : inB x 0 (n - 1) = true
      · go_wp2_with (go_at_call 74; refine (c_within _ _ _ _).mono ?_; rintro e w' ⟨rfl, rfl⟩)
        go_round
        case rel => exact ⟨k + 1, by omega, by go_num, HS.out.step HG.out (inB_iff.1 hq)⟩
        case measure => simp [intOf]; omega
      · have hq' : inB x 0 (n - 1) = false := by simpa using hq
        clear hq
        go_wp2_with (go_at_call 74; refine (c_within _ _ _ _).mono ?_; rintro e w' ⟨rfl, rfl⟩)
        go_ret
        exact ⟨ret_bool (tf_no (fun hh => inB_not hq' (hh k x HG.out))).symm, rfl⟩
    · have hall := hide (HS.out.all (by omega))
      go_wp2
      go_ret
      exact ⟨ret_bool ((tf_yes hall.out).symm), rfl⟩
set_option maxHeartbeats 2000000 in
set_option maxRecDepth 20000 in
theorem c_areSignals (v : Value) (xs : List (List Int)) (w : World) (hr : T.rd w (T.sl 33 1 (xs.map (T.ints 2))) [v]) : Calls Tryz.prog 215 #[v] w fun e w' => e = .returned (.bool (tf (Each xs fun _ l => sigB l = true))) ∧ w = w' := by
  obtain ⟨A, cap, rfl, hl, hc, hx⟩ := T.rd_openG hr
  have HX := hide hx; clear hx hr
  go_enter Tryz.func215, Tryz.ntmps215
  go_wp2
  go_loop [7] (fun i => ∃ k : Nat, k ≤ xs.length ∧ i = .int .i64 k ∧ Upto xs (fun _ l => sigB l = true) k) (fun i => xs.length - (intOf i).toNat)
  case atStart => exact ⟨0, Nat.zero_le _, rfl, Upto.zero⟩
  case round =>
    obtain ⟨k, hk, rfl, hs⟩ := hrel
    have HS := hide hs; clear hs
    by_cases hlt : k < xs.length
    · have hgk := List.getElem?_eq_getElem hlt
      obtain ⟨b, off, cs, rfl, hb, hcs, hcell⟩ := HX.out k xs[k] hgk
      generalize xs[k] = l at *
      have HG := hide hgk; clear hgk
      obtain ⟨v3, rfl⟩ := T.rd_one hcs
      have d0 := hcell 0 v3 rfl
      rw [Nat.mul_one, Nat.add_zero] at d0
      have R := hide (T.rd_ints.1 hcs); clear hcs hcell
      obtain ⟨A3, c3, rfl, l3, m3, x3⟩ := R.out.open_
      clear x3
      by_cases hq : sigB l = true
      · go_wp2_with (go_at_call 255; refine (c_isSignal _ l _ R.out).mono ?_; rintro e w' ⟨rfl, rfl⟩)
        go_round
        case rel => exact ⟨k + 1, by omega, by go_num, HS.out.step HG.out hq⟩
        case measure => simp [intOf]; omega
      · have hq' : sigB l = false := by simpa using hq
        clear hq
        go_wp2_with (go_at_call 255; refine (c_isSignal _ l _ R.out).mono ?_; rintro e w' ⟨rfl, rfl⟩)
        go_ret
        exact ⟨ret_bool (tf_no (fun hh => by rw [hh k l HG.out] at hq'; exact absurd hq' (by simp))).symm, rfl⟩
    · have hall := hide (HS.out.all (by omega)); clear HS
      go_wp2
      go_ret
      exact ⟨ret_bool (tf_yes hall.out).symm, rfl⟩
set_option maxHeartbeats 2000000 in
set_option maxRecDepth 20000 in
theorem c_areSources (v : Value) (xs : List (List Int)) (w : World) (hr : T.rd w (T.sl 33 1 (xs.map (T.ints 2))) [v]) : Calls Tryz.prog 157 #[v] w fun e w' => e = .returned (.bool (tf (SourcesOk xs))) ∧ w = w' := by
  have R := hide hr
  obtain ⟨A, cap, rfl, hl, hc, hx⟩ := T.rd_openG hr
  clear hx hr
  by_cases h6 : xs.length ≤ 6
  · go_enter Tryz.func157, Tryz.ntmps157
    go_wp2_with (go_at_call 215; refine (c_areSignals _ xs _ R.out).mono ?_; rintro e w' ⟨rfl, rfl⟩)
    go_ret
    exact ⟨ret_bool (tf_iff ⟨fun h => ⟨h, h6⟩, fun h => h.each⟩), rfl⟩
  · go_enter Tryz.func157, Tryz.ntmps157
    go_wp2
    go_ret
    exact ⟨ret_bool (tf_no fun h => h6 h.few).symm, rfl⟩
set_option maxHeartbeats 2000000 in
set_option maxRecDepth 20000 in
theorem c_areTables (v : Value) (xs : List (List Int)) (w : World) (hr : T.rd w (T.sl 33 1 (xs.map (T.ints 2))) [v]) : Calls Tryz.prog 281 #[v] w fun e w' => e = .returned (.bool (tf (TablesOk xs))) ∧ w = w' := by
  obtain ⟨A, cap, rfl, hl, hc, hx⟩ := T.rd_openG hr
  have HX := hide hx; clear hx hr
  go_enter Tryz.func281, Tryz.ntmps281
  go_wp2
  go_loop [8] (fun i => ∃ k : Nat, k ≤ xs.length ∧ i = .int .i64 k ∧ Upto xs (fun _ t => (t.length = 2 ∨ t.length = 4 ∨ t.length = 8 ∨ t.length = 16) ∧ smpB t = true) k) (fun i => xs.length - (intOf i).toNat)
  case atStart => exact ⟨0, Nat.zero_le _, rfl, Upto.zero⟩
  case round =>
    obtain ⟨k, hk, rfl, hs⟩ := hrel
    have HS := hide hs; clear hs
    by_cases hlt : k < xs.length
    · have hgk := List.getElem?_eq_getElem hlt
      obtain ⟨b, off, cs, rfl, hb, hcs, hcell⟩ := HX.out k xs[k] hgk
      generalize xs[k] = l at *
      have HG := hide hgk; clear hgk
      obtain ⟨v3, rfl⟩ := T.rd_one hcs
      have d0 := hcell 0 v3 rfl
      rw [Nat.mul_one, Nat.add_zero] at d0
      have R := hide (T.rd_ints.1 hcs); clear hcs hcell
      obtain ⟨A3, c3, rfl, l3, m3, x3⟩ := R.out.open_
      clear x3
      by_cases hn : l.length = 2 ∨ l.length = 4 ∨ l.length = 8 ∨ l.length = 16
      · by_cases hq : smpB l = true
        · rcases hn with hn | hn | hn | hn
          · skip
            have n2 : ((l.length : Int) != 2) = false := by simp; omega
            clear hn
            have hn : l.length = 2 ∨ l.length = 4 ∨ l.length = 8 ∨ l.length = 16 := by simp at n2; omega
            have HN := hide hn; clear hn
            go_wp2_with (go_at_call 139; refine (c_areSamples _ l _ R.out).mono ?_; rintro e w' ⟨rfl, rfl⟩)
            go_round
            case rel => exact ⟨k + 1, by omega, by go_num, HS.out.step HG.out ⟨HN.out, hq⟩⟩
            case measure => simp [intOf]; omega
          · skip
            have n2 : ((l.length : Int) != 2) = true := by simp; omega
            have n4 : ((l.length : Int) != 4) = false := by simp; omega
            clear hn
            have hn : l.length = 2 ∨ l.length = 4 ∨ l.length = 8 ∨ l.length = 16 := by simp at n4; omega
            have HN := hide hn; clear hn
            go_wp2_with (go_at_call 139; refine (c_areSamples _ l _ R.out).mono ?_; rintro e w' ⟨rfl, rfl⟩)
            go_round
            case rel => exact ⟨k + 1, by omega, by go_num, HS.out.step HG.out ⟨HN.out, hq⟩⟩
            case measure => simp [intOf]; omega
          · skip
            have n2 : ((l.length : Int) != 2) = true := by simp; omega
            have n4 : ((l.length : Int) != 4) = true := by simp; omega
            have n8 : ((l.length : Int) != 8) = false := by simp; omega
            clear hn
            have hn : l.length = 2 ∨ l.length = 4 ∨ l.length = 8 ∨ l.length = 16 := by simp at n8; omega
            have HN := hide hn; clear hn
            go_wp2_with (go_at_call 139; refine (c_areSamples _ l _ R.out).mono ?_; rintro e w' ⟨rfl, rfl⟩)
            go_round
            case rel => exact ⟨k + 1, by omega, by go_num, HS.out.step HG.out ⟨HN.out, hq⟩⟩
            case measure => simp [intOf]; omega
          · skip
            have n2 : ((l.length : Int) != 2) = true := by simp; omega
            have n4 : ((l.length : Int) != 4) = true := by simp; omega
            have n8 : ((l.length : Int) != 8) = true := by simp; omega
            have n16 : ((l.length : Int) != 16) = false := by simp; omega
            clear hn
            have hn : l.length = 2 ∨ l.length = 4 ∨ l.length = 8 ∨ l.length = 16 := by simp at n16; omega
            have HN := hide hn; clear hn
            go_wp2_with (go_at_call 139; refine (c_areSamples _ l _ R.out).mono ?_; rintro e w' ⟨rfl, rfl⟩)
            go_round
            case rel => exact ⟨k + 1, by omega, by go_num, HS.out.step HG.out ⟨HN.out, hq⟩⟩
            case measure => simp [intOf]; omega
        · have hq' : smpB l = false := by simpa using hq
          clear hq
          rcases hn with hn | hn | hn | hn
          · skip
            have n2 : ((l.length : Int) != 2) = false := by simp; omega
            clear hn
            go_wp2_with (go_at_call 139; refine (c_areSamples _ l _ R.out).mono ?_; rintro e w' ⟨rfl, rfl⟩)
            go_ret
            exact ⟨ret_bool (tf_no (fun hh => by rw [(hh.each k l HG.out).2] at hq'; exact absurd hq' (by simp))).symm, rfl⟩
          · skip
            have n2 : ((l.length : Int) != 2) = true := by simp; omega
            have n4 : ((l.length : Int) != 4) = false := by simp; omega
            clear hn
            go_wp2_with (go_at_call 139; refine (c_areSamples _ l _ R.out).mono ?_; rintro e w' ⟨rfl, rfl⟩)
            go_ret
            exact ⟨ret_bool (tf_no (fun hh => by rw [(hh.each k l HG.out).2] at hq'; exact absurd hq' (by simp))).symm, rfl⟩
          · skip
            have n2 : ((l.length : Int) != 2) = true := by simp; omega
            have n4 : ((l.length : Int) != 4) = true := by simp; omega
            have n8 : ((l.length : Int) != 8) = false := by simp; omega
            clear hn
            go_wp2_with (go_at_call 139; refine (c_areSamples _ l _ R.out).mono ?_; rintro e w' ⟨rfl, rfl⟩)
            go_ret
            exact ⟨ret_bool (tf_no (fun hh => by rw [(hh.each k l HG.out).2] at hq'; exact absurd hq' (by simp))).symm, rfl⟩
          · skip
            have n2 : ((l.length : Int) != 2) = true := by simp; omega
            have n4 : ((l.length : Int) != 4) = true := by simp; omega
            have n8 : ((l.length : Int) != 8) = true := by simp; omega
            have n16 : ((l.length : Int) != 16) = false := by simp; omega
            clear hn
            go_wp2_with (go_at_call 139; refine (c_areSamples _ l _ R.out).mono ?_; rintro e w' ⟨rfl, rfl⟩)
            go_ret
            exact ⟨ret_bool (tf_no (fun hh => by rw [(hh.each k l HG.out).2] at hq'; exact absurd hq' (by simp))).symm, rfl⟩
      · have n2 : ((l.length : Int) != 2) = true := by simp; omega
        have n4 : ((l.length : Int) != 4) = true := by simp; omega
        have n8 : ((l.length : Int) != 8) = true := by simp; omega
        have n16 : ((l.length : Int) != 16) = true := by simp; omega
        go_wp2
        go_ret
        exact ⟨ret_bool (tf_no (fun hh => hn (hh.each k l HG.out).1)).symm, rfl⟩
    · have hall := hide (HS.out.all (by omega)); clear HS
      by_cases h4 : xs.length ≤ 4
      · go_wp2
        go_ret
        exact ⟨ret_bool (by rw [tf_yes ⟨hall.out, h4⟩]; simp; omega), rfl⟩
      · go_wp2
        go_ret
        exact ⟨ret_bool (by rw [tf_no fun h => h4 h.few]; simp; omega), rfl⟩
set_option maxHeartbeats 2000000 in
set_option maxRecDepth 20000 in
theorem c_isClip (x : GClip) (cs : List Value) (w : World) (h : T.rds w x.fs cs) : Calls Tryz.prog 218 #[.agg cs.toArray] w fun e w' => e = .returned (.bool (tf (ClipOk x))) ∧ Below w.heap.size w w' := by
  obtain rfl := GClip.rd_open h
  clear h
  have HB0 := hide (show Below w.heap.size w (w.alloc (.cells #[.int .i64 x.fSource, .int .i64 x.fFrom, .int .i64 x.fLength, .int .i64 x.fAt, .int .i64 x.fGain] 90)) from (Below.refl _ _).alloc (Nat.le_refl _) _)
  have HK0 := hide (Bk.born w 90 #[.int .i64 x.fSource, .int .i64 x.fFrom, .int .i64 x.fLength, .int .i64 x.fAt, .int .i64 x.fGain])
  go_enter Tryz.func218, Tryz.ntmps218
  by_cases h1 : inB x.fSource 0 5 = true
  rotate_left
  · have hq : inB x.fSource 0 5 = false := by simpa using h1
    go_wp2_with (go_at_call 74; refine (c_within _ _ _ _).mono ?_; rintro e w' ⟨rfl, rfl⟩)
    go_ret
    exact ⟨ret_bool (tf_no fun hh => by exact h1 hh.source).symm, HB0.out⟩
  by_cases h2 : inB x.fLength 1 4000 = true
  rotate_left
  · have hq : inB x.fLength 1 4000 = false := by simpa using h2
    go_wp2_with (go_at_call 74; refine (c_within _ _ _ _).mono ?_; rintro e w' ⟨rfl, rfl⟩)
    go_ret
    exact ⟨ret_bool (tf_no fun hh => by exact h2 hh.length).symm, HB0.out⟩
  have hb := inB_iff.1 h2
  by_cases h3 : inB x.fFrom 0 (4000 - x.fLength) = true
  rotate_left
  · have hq : inB x.fFrom 0 (4000 - x.fLength) = false := by simpa using h3
    go_wp2_with (go_at_call 74; refine (c_within _ _ _ _).mono ?_; rintro e w' ⟨rfl, rfl⟩)
    go_ret
    exact ⟨ret_bool (tf_no fun hh => by exact h3 hh.from_).symm, HB0.out⟩
  by_cases h4 : inB x.fAt 0 (4000 - x.fLength) = true
  rotate_left
  · have hq : inB x.fAt 0 (4000 - x.fLength) = false := by simpa using h4
    go_wp2_with (go_at_call 74; refine (c_within _ _ _ _).mono ?_; rintro e w' ⟨rfl, rfl⟩)
    go_ret
    exact ⟨ret_bool (tf_no fun hh => by exact h4 hh.at_).symm, HB0.out⟩
  by_cases h5 : Smp x.fGain
  rotate_left
  · have hq : decide (Smp x.fGain) = false := by simpa using h5
    go_wp2_with (first | (go_at_call 74; refine (c_within _ _ _ _).mono ?_; rintro e w' ⟨rfl, rfl⟩) | (go_at_call 206; refine (c_isSample _ _).mono ?_; rintro e w' ⟨rfl, rfl⟩))
    go_ret
    exact ⟨ret_bool (tf_no fun hh => by exact h5 hh.gain).symm, HB0.out⟩
  have hq : decide (Smp x.fGain) = true := by simpa using h5
  go_wp2_with (first | (go_at_call 74; refine (c_within _ _ _ _).mono ?_; rintro e w' ⟨rfl, rfl⟩) | (go_at_call 206; refine (c_isSample _ _).mono ?_; rintro e w' ⟨rfl, rfl⟩))
  go_ret
  exact ⟨ret_bool (by rw [tf_yes ⟨h1, h2, h3, h4, h5⟩]), HB0.out⟩
end Go.Proofs.YtfifcnojkjjnkaaGreat
end
section
namespace Go.Proofs.YtfifcnojkjjnkaaGreat
open Go.RowKit
end Go.Proofs.YtfifcnojkjjnkaaGreat
end
