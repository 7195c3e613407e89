/- Contracts on whole structs. What valid sessions and caches are, in plain words. Fractions, tempo maps, tunings and scores, in plain words. Words: a slice of elements opened; a struct behind a pointer. Contracts: wrapped numbers, copies, differences. Contracts: differences of an order; PredictSignal of both sides. -/
import Derived.Test.YteiflbhcehajkaaGreatDoorQAdExactDeskText
import Derived.Test.YteiflbhcehajkaaGreatDoorQAfExactDeskText
import Derived.Test.YteiflbhcehajkaaGreatDoorQAgExactDeskText
import Derived.Test.YteiflbhcehajkaaGreatDoorQAhExactDeskText
import Derived.Test.YteiflbhcehajkaaGreatDoorQAcExactDeskText
import Derived.Test.YteiflbhcehajkaaGreatDoorQAaExactDeskText
import Derived.Test.YteiflbhcehajkaaGreatDoorQAeExactDeskText
import Derived.Deep.RegionWith
set_option linter.unusedVariables false
set_option linter.unusedSimpArgs false
section
namespace Go.Proofs.YteiflbhcehajkaaGreatDoor
open Go.RowKit
theorem T.rds_below {w w' : World} {x : List T} {cs : List Value} (h : T.rds w x cs) (hb : Below w.heap.size w w') : T.rds w' x cs := T.rds_keep hb.size hb.block x cs h
theorem b_toDesk (x : GDesk) (cs : List Value) (w : World) (hs : x.small) (h : T.rds w x.fs cs) : Calls Tryz.prog 12 #[.agg cs.toArray] w fun e w' => ∃ ds, e = .returned (.agg ds.toArray) ∧ T.rds w' x.fs ds ∧ Below w.heap.size w w' := by
  obtain ⟨v0, v1, v6, v7, v9, v10, v11, v12, v13, rfl, h0, h1, h6, h7, h9, h10, h11, h12, h13⟩ := GDesk.rd_open h
  refine (c_toDesk x _ _ _ _ _ _ _ _ _ w hs h0 h1 h6 h7 h9 h10 h11 h12 h13).mono ?_
  rintro e w' ⟨u0, F0, u1, F1, u6, F6, u7, F7, u9, F9, u10, F10, u11, F11, u12, F12, u13, F13, rfl, o0, o1, o6, o7, o9, o10, o11, o12, o13, sg, hb⟩
  exact ⟨_, rfl, GDesk.rd_mk (T.ow_rd _ _ _ o0) (T.ow_rd _ _ _ o1) (T.ow_rd _ _ _ o6) (T.ow_rd _ _ _ o7) (T.ow_rd _ _ _ o9) (T.ow_rd _ _ _ o10) (T.ow_rd _ _ _ o11) (T.ow_rd _ _ _ o12) (T.ow_rd _ _ _ o13), hb⟩
theorem b_eqDesk (x : GDesk) (cs ds : List Value) (w : World) (h : T.rds w x.fs cs) (g : T.rds w x.fs ds) : Calls Tryz.prog 14 #[.agg cs.toArray, .agg ds.toArray] w fun e w' => e = .returned (.bool true) ∧ Below w.heap.size w w' := by
  obtain ⟨v0, v1, v6, v7, v9, v10, v11, v12, v13, rfl, h0, h1, h6, h7, h9, h10, h11, h12, h13⟩ := GDesk.rd_open h
  obtain ⟨u0, u1, u6, u7, u9, u10, u11, u12, u13, rfl, k0, k1, k6, k7, k9, k10, k11, k12, k13⟩ := GDesk.rd_open g
  exact c_eqDesk x _ _ _ _ _ _ _ _ _ _ _ _ _ _ _ _ _ _ w h0 h1 h6 h7 h9 h10 h11 h12 h13 k0 k1 k6 k7 k9 k10 k11 k12 k13
end Go.Proofs.YteiflbhcehajkaaGreatDoor
end
section
namespace Go.Proofs.YteiflbhcehajkaaGreatDoor
open Go.RowKit
noncomputable def tf (p : Prop) : Bool := @decide p (Classical.propDecidable p)
theorem tf_yes {p : Prop} (h : p) : tf p = true := by unfold tf; exact @decide_eq_true p (Classical.propDecidable p) h
theorem tf_no {p : Prop} (h : ¬ p) : tf p = false := by unfold tf; exact @decide_eq_false p (Classical.propDecidable p) h
theorem tf_iff {p q : Prop} (h : p ↔ q) : tf p = tf q := by rw [propext h]
theorem tf_dec {p : Prop} [d : Decidable p] : tf p = decide p := by
  by_cases h : p
  · rw [tf_yes h, decide_eq_true h]
  · rw [tf_no h, decide_eq_false h]
/-- The first k elements are right; all are. -/
def Upto {α : Type} (xs : List α) (Q : Nat → α → Prop) (k : Nat) : Prop := ∀ i x, i < k → xs[i]? = some x → Q i x
def Each {α : Type} (xs : List α) (Q : Nat → α → Prop) : Prop := ∀ i x, xs[i]? = some x → Q i x
section
variable {α : Type} {xs : List α} {Q : Nat → α → Prop} {k : Nat} {x : α}
theorem Upto.zero : Upto xs Q 0 := fun i _ h => absurd h (Nat.not_lt_zero i)
theorem Upto.step (h : Upto xs Q k) (hx : xs[k]? = some x) (q : Q k x) : Upto xs Q (k + 1) := by
  intro i y hi hy
  by_cases e : i = k
  · subst e
    rw [hx] at hy
    injection hy with hy
    subst hy
    exact q
  · exact h i y (by omega) hy
theorem Upto.all (h : Upto xs Q k) (hk : xs.length ≤ k) : Each xs Q := fun i y hy => h i y (Nat.lt_of_lt_of_le (List.getElem?_eq_some_iff.1 hy).1 hk) hy
theorem Each.of_mem {P : α → Prop} : Each xs (fun _ y => P y) ↔ ∀ y ∈ xs, P y := by
  constructor
  · intro h y hy
    obtain ⟨i, hi, rfl⟩ := List.mem_iff_getElem.1 hy
    exact h i _ (List.getElem?_eq_getElem hi)
  · intro h i y hy
    exact h y (List.mem_of_getElem? hy)
end
/-- Numbers from 0 on and below n. -/
def Idx (l : List Int) (n : Int) : Prop := Each l fun _ x => 0 ≤ x ∧ x ≤ n - 1
structure ClipOk (c : GClip) : Prop where
  source : inB c.fSource 0 5 = true
  length : inB c.fLength 1 4000 = true
  from_ : inB c.fFrom 0 (4000 - c.fLength) = true
  at_ : inB c.fAt 0 (4000 - c.fLength) = true
  gain : Smp c.fGain
structure TrackOk (t : GTrack) : Prop where
  clips : Each t.fClips fun i c => ClipOk c ∧ ∀ p, 0 < i → t.fClips[i - 1]? = some p → p.fAt ≤ c.fAt
  few : t.fClips.length ≤ 12
def befS (l : List GSend) (strip : Int) (i : Nat) : Int := if i = 0 then strip else (l.getD (i - 1) ⟨0, 0⟩).fTo
structure SendsOk (l : List GSend) (strip n : Int) : Prop where
  each : Each l fun i x => inB x.fTo (befS l strip i + 1) (n - 1) = true ∧ Smp x.fGain
  last : strip = n - 1 → l.length = 0
  few : strip ≠ n - 1 → 1 ≤ l.length ∧ l.length ≤ 4
def smallN (c : Nat) : Prop := 97 ≤ c ∧ c ≤ 122
def digitN (c : Nat) : Prop := 48 ≤ c ∧ c ≤ 57
structure NameOk (s : ByteArray) : Prop where
  some_ : 1 ≤ s.size
  few : s.size ≤ 10
  each : ∀ i, i < s.size → smallN (bA s i) ∨ (digitN (bA s i) ∧ i ≠ 0)
structure StripOk (x : GStrip) (i n : Int) : Prop where
  name : NameOk x.fName
  latency : inB x.fLatency 0 32 = true
  sends : SendsOk x.fSends i n
structure MixerOk (m : GMixer) : Prop where
  some_ : 1 ≤ m.fStrips.length
  few : m.fStrips.length ≤ 8
  each : Each m.fStrips fun i x => StripOk x (i : Int) (m.fStrips.length : Int) ∧ ∀ j y, j < i → m.fStrips[j]? = some y → y.fName ≠ x.fName
structure SourcesOk (ss : List (List Int)) : Prop where
  each : Each ss fun _ l => sigB l = true
  few : ss.length ≤ 6
structure TablesOk (ts : List (List Int)) : Prop where
  each : Each ts fun _ t => (t.length = 2 ∨ t.length = 4 ∨ t.length = 8 ∨ t.length = 16) ∧ smpB t = true
  few : ts.length ≤ 4
/-- What is known of a kind of nodes: its inputs, the range of A (none if the first is greater), whether it has B. -/
structure Knd where
  inputs : Int
  low : Int
  high : Int
  linear : Bool
  hasB : Bool
def kndL : List Knd := [⟨0, 0, 3, true, false⟩, ⟨0, -2147483648, 2147483647, false, false⟩, ⟨2, 1, 0, true, false⟩, ⟨2, 1, 0, true, false⟩, ⟨1, -2147483648, 2147483647, true, false⟩, ⟨1, 1, 16, true, false⟩, ⟨1, 1, 0, true, false⟩, ⟨1, 1, 0, true, false⟩, ⟨2, 1, 0, false, false⟩, ⟨1, 0, 31, false, false⟩, ⟨1, 0, 2147483647, false, false⟩, ⟨1, -2147483648, 2147483647, false, false⟩, ⟨1, 0, 3, false, false⟩, ⟨0, -2147483648, 2147483647, false, false⟩, ⟨3, 1, 0, false, false⟩, ⟨2, 1, 0, false, false⟩, ⟨1, -2147483648, 2147483647, true, true⟩]
def kndF (k : Int) : Knd := kndL.getD (k - 1).toNat ⟨0, 0, 0, false, false⟩
structure NodeOk (x : GNode) (tables : Int) : Prop where
  kind : inB x.fKind 1 17 = true
  a : if (kndF x.fKind).low ≤ (kndF x.fKind).high then inB x.fA (kndF x.fKind).low (kndF x.fKind).high = true else x.fA = 0
  b : if (kndF x.fKind).hasB then inB x.fB 1 16 = true else x.fB = 0
  from_ : Each x.fFrom fun _ f => inB f 0 23 = true
  arity : (x.fFrom.length : Int) = (kndF x.fKind).inputs
  table : x.fKind = 13 → x.fA < tables
structure FormedOk (p : GPatch) : Prop where
  inputs : inB p.fInputs 0 4 = true
  tables : TablesOk p.fTables
  few : p.fNodes.length ≤ 24
  outs : p.fOutputs.length ≤ 4
  outputs : Idx p.fOutputs (p.fNodes.length : Int)
  nodes : Each p.fNodes fun _ x => NodeOk x (p.fTables.length : Int) ∧ Idx x.fFrom (p.fNodes.length : Int) ∧ (x.fKind = 1 → x.fA < p.fInputs)
/-- The nodes that a node waits for. -/
def waitsF (x : GNode) : List Int := if x.fKind = 6 then [] else x.fFrom
def readyB (nodes : List GNode) (out : List Int) (i : Nat) : Bool := !out.contains (i : Int) && ((nodes[i]?).map fun x => (waitsF x).all fun f => out.contains f).getD false
def nextF (nodes : List GNode) (out : List Int) : Option Nat := (List.range nodes.length).find? (readyB nodes out)
/-- The order in which nodes are computed: the first steps. -/
def ordNodes (nodes : List GNode) : Nat → List Int
  | 0 => []
  | k + 1 => match nextF nodes (ordNodes nodes k) with
    | some i => ordNodes nodes k ++ [(i : Int)]
    | none => ordNodes nodes k
def orderF (nodes : List GNode) : List Int := ordNodes nodes nodes.length
theorem ordNodes_stop {nodes : List GNode} {k : Nat} (h : nextF nodes (ordNodes nodes k) = none) : ∀ m, ordNodes nodes (k + m) = ordNodes nodes k := by
  intro m
  induction m with
  | zero => rfl
  | succ m ih =>
    rw [← Nat.add_assoc]
    simp only [ordNodes]
    rw [ih, h]
theorem nextF_some {nodes : List GNode} {out : List Int} {i : Nat} (hi : i < nodes.length) (hr : readyB nodes out i = true) (hb : ∀ j, j < i → readyB nodes out j = false) : nextF nodes out = some i := by
  unfold nextF
  rw [List.find?_eq_some_iff_getElem]
  refine ⟨hr, i, by simpa using hi, by simp, fun j hj => by simp [hb j hj]⟩
theorem nextF_none {nodes : List GNode} {out : List Int} (hb : ∀ j, j < nodes.length → readyB nodes out j = false) : nextF nodes out = none := by
  unfold nextF
  rw [List.find?_eq_none]
  intro j hj
  simp [hb j (by simpa using hj)]
theorem nextF_inv {nodes : List GNode} {out : List Int} {i : Nat} (h : nextF nodes out = some i) : i < nodes.length ∧ readyB nodes out i = true := by
  unfold nextF at h
  exact ⟨by simpa using List.mem_of_find?_eq_some h, List.find?_some h⟩
theorem ordNodes_in {nodes : List GNode} : ∀ k, (ordNodes nodes k).Nodup ∧ ∀ x ∈ ordNodes nodes k, 0 ≤ x ∧ x < (nodes.length : Int)
  | 0 => by simp [ordNodes]
  | k + 1 => by
    obtain ⟨h1, h2⟩ := ordNodes_in (nodes := nodes) k
    simp only [ordNodes]
    split
    · next i h =>
      obtain ⟨hi, hr⟩ := nextF_inv h
      have hn : (i : Int) ∉ ordNodes nodes k := by
        simp only [readyB, Bool.and_eq_true, Bool.not_eq_true'] at hr
        simpa using hr.1
      refine ⟨?_, ?_⟩
      · rw [List.nodup_append]
        refine ⟨h1, by simp, fun a ha b hb e => ?_⟩
        simp at hb
        subst hb e
        exact hn ha
      · intro x hx
        rcases List.mem_append.1 hx with hx | hx
        · exact h2 x hx
        · simp at hx; subst hx; omega
    · exact ⟨h1, h2⟩
theorem nodup_range : ∀ (n : Nat) (l : List Nat), l.Nodup → (∀ x ∈ l, x < n) → l.length ≤ n
  | 0, [], _, _ => Nat.le_refl _
  | 0, x :: _, _, h => absurd (h x (by simp)) (by omega)
  | n + 1, l, h1, h2 => by
    by_cases hm : n ∈ l
    · have h3 := nodup_range n (l.erase n) (h1.erase n) (fun x hx => by
        have := (h1.mem_erase_iff).1 hx
        have h4 := h2 x this.2
        have h5 := this.1
        omega)
      rw [List.length_erase_of_mem hm] at h3
      omega
    · have h3 := nodup_range n l h1 (fun x hx => by
        have h4 := h2 x hx
        have : x ≠ n := fun e => hm (e ▸ hx)
        omega)
      omega
theorem nodup_bound {n : Nat} {l : List Int} (h1 : l.Nodup) (h2 : ∀ x ∈ l, 0 ≤ x ∧ x < (n : Int)) : l.length ≤ n := by
  have h3 : (l.map Int.toNat).Nodup := by
    rw [List.Nodup, List.pairwise_map]
    refine List.Pairwise.imp_of_mem ?_ h1
    intro a b ha hb hab e
    have := h2 a ha
    have := h2 b hb
    omega
  have := nodup_range n _ h3 (fun x hx => by
    obtain ⟨y, hy, rfl⟩ := List.mem_map.1 hx
    have := h2 y hy
    omega)
  simpa using this
theorem ordNodes_cap {nodes : List GNode} (k : Nat) : (ordNodes nodes k).length ≤ nodes.length := nodup_bound (ordNodes_in k).1 (ordNodes_in k).2
/-- Where the order stops, it has stopped for good. -/
theorem orderF_of_stop {nodes : List GNode} {k : Nat} (h : nextF nodes (ordNodes nodes k) = none) (hk : (ordNodes nodes k).length = k) : orderF nodes = ordNodes nodes k := by
  have hc := ordNodes_cap (nodes := nodes) k
  unfold orderF
  rw [show nodes.length = k + (nodes.length - k) by omega]
  exact ordNodes_stop h _
theorem ordNodes_snoc {nodes : List GNode} {k i : Nat} (h : nextF nodes (ordNodes nodes k) = some i) : ordNodes nodes (k + 1) = ordNodes nodes k ++ [(i : Int)] := by
  simp only [ordNodes, h]
structure PatchOk (p : GPatch) : Prop where
  formed : FormedOk p
  order : (orderF p.fNodes).length = p.fNodes.length
def noPatch : GPatch := ⟨0, [], [], []⟩
def EffectOk (p : GPatch) : Prop := p = noPatch ∨ (PatchOk p ∧ p.fInputs = 1 ∧ p.fOutputs.length = 1)
structure SessionOk (s : GSession) : Prop where
  length : inB s.fLength 0 1000 = true
  sources : SourcesOk s.fSources
  few : s.fTracks.length ≤ 6
  mixer : MixerOk s.fMixer
  feed : s.fFeeds.length = s.fTracks.length
  feeds : Idx s.fFeeds (s.fMixer.fStrips.length : Int)
  effect : s.fEffects.length = s.fMixer.fStrips.length
  tracks : Each s.fTracks fun _ t => TrackOk t ∧ Each t.fClips fun _ c => c.fSource < (s.fSources.length : Int)
  effects : Each s.fEffects fun _ p => EffectOk p
end Go.Proofs.YteiflbhcehajkaaGreatDoor
end
section
namespace Go.Proofs.YteiflbhcehajkaaGreatDoor
open Go.RowKit
/-- A fraction is valid. -/
def fracOk (f : GFrac) : Prop := (1 ≤ f.fDen ∧ f.fDen ≤ 1000000) ∧ (-1000000000 ≤ f.fNum ∧ f.fNum ≤ 1000000000) ∧ Nat.gcd f.fNum.natAbs f.fDen.natAbs = 1
instance (f : GFrac) : Decidable (fracOk f) := by unfold fracOk; infer_instance
def zeroFr : GFrac := ⟨0, 0⟩
/-- The fraction of two numbers, and a code. -/
def mkFr (a b : Int) : GFrac × Int :=
  if b = 0 then (zeroFr, 1)
  else if 1000000000 < a.natAbs / Nat.gcd a.natAbs b.natAbs ∨ 1000000 < b.natAbs / Nat.gcd a.natAbs b.natAbs then (zeroFr, 2)
  else (⟨if decide (a < 0) != decide (b < 0) then -((a.natAbs / Nat.gcd a.natAbs b.natAbs : Nat) : Int) else ((a.natAbs / Nat.gcd a.natAbs b.natAbs : Nat) : Int), ((b.natAbs / Nat.gcd a.natAbs b.natAbs : Nat) : Int)⟩, 0)
def addFr (a b : GFrac) : GFrac × Int := if fracOk a ∧ fracOk b then mkFr (a.fNum * b.fDen + b.fNum * a.fDen) (a.fDen * b.fDen) else (zeroFr, 1)
def subFr (a b : GFrac) : GFrac × Int := if fracOk a ∧ fracOk b then mkFr (a.fNum * b.fDen - b.fNum * a.fDen) (a.fDen * b.fDen) else (zeroFr, 1)
def mulFr (a b : GFrac) : GFrac × Int := if fracOk a ∧ fracOk b then mkFr (a.fNum * b.fNum) (a.fDen * b.fDen) else (zeroFr, 1)
def sgn (d : Int) : Int := if d < 0 then -1 else if 0 < d then 1 else 0
def cmpFr (a b : GFrac) : Int := sgn (a.fNum * b.fDen - b.fNum * a.fDen)
theorem sgn_le {d : Int} : sgn d ≤ 0 ↔ d ≤ 0 := by unfold sgn; split <;> (try split) <;> omega
theorem sgn_neg {d : Int} : sgn d < 0 ↔ d < 0 := by unfold sgn; split <;> (try split) <;> omega
theorem sgn_pos {d : Int} : 0 < sgn d ↔ 0 < d := by unfold sgn; split <;> (try split) <;> omega
/-- Bounds of products of parts of valid fractions. -/
theorem prod_bnd {x y A B : Int} (hx : -A ≤ x ∧ x ≤ A) (hy : 0 ≤ y ∧ y ≤ B) : -(A * B) ≤ x * y ∧ x * y ≤ A * B := by
  have hA : 0 ≤ A := by omega
  have h1 : x * y ≤ A * y := Int.mul_le_mul_of_nonneg_right hx.2 hy.1
  have h2 : A * y ≤ A * B := Int.mul_le_mul_of_nonneg_left hy.2 hA
  have h3 : -A * y ≤ x * y := Int.mul_le_mul_of_nonneg_right hx.1 hy.1
  have h4 : -A * y = -(A * y) := Int.neg_mul A y
  omega
theorem prod_abs {x y A B : Int} (hx : -A ≤ x ∧ x ≤ A) (hy : -B ≤ y ∧ y ≤ B) : -(A * B) ≤ x * y ∧ x * y ≤ A * B := by
  by_cases h : 0 ≤ y
  · exact prod_bnd hx ⟨h, hy.2⟩
  · have := prod_bnd (y := -y) hx (B := B) ⟨by omega, by omega⟩
    rw [Int.mul_neg] at this
    omega
theorem gcd_pos_right {a b : Nat} (h : b ≠ 0) : 0 < Nat.gcd a b := Nat.gcd_pos_of_pos_right _ (Nat.pos_of_ne_zero h)
/-- What is made is valid. -/
theorem mkFr_ok {a b : Int} (h : (mkFr a b).2 = 0) : fracOk (mkFr a b).1 := by
  unfold mkFr at h ⊢
  by_cases h0 : b = 0
  · rw [if_pos h0] at h; exact absurd h (by decide)
  · rw [if_neg h0] at h ⊢
    by_cases h1 : 1000000000 < a.natAbs / Nat.gcd a.natAbs b.natAbs ∨ 1000000 < b.natAbs / Nat.gcd a.natAbs b.natAbs
    · rw [if_pos h1] at h; exact absurd h (by decide)
    · rw [if_neg h1]
      have hb : b.natAbs ≠ 0 := by omega
      have hg : 0 < Nat.gcd a.natAbs b.natAbs := gcd_pos_right hb
      have hd : 0 < b.natAbs / Nat.gcd a.natAbs b.natAbs := Nat.div_pos (Nat.le_of_dvd (Nat.pos_of_ne_zero hb) (Nat.gcd_dvd_right _ _)) hg
      have hc : Nat.gcd (a.natAbs / Nat.gcd a.natAbs b.natAbs) (b.natAbs / Nat.gcd a.natAbs b.natAbs) = 1 := by
        rw [Nat.gcd_div (Nat.gcd_dvd_left _ _) (Nat.gcd_dvd_right _ _)]
        exact Nat.div_self hg
      generalize a.natAbs / Nat.gcd a.natAbs b.natAbs = p at *
      generalize b.natAbs / Nat.gcd a.natAbs b.natAbs = q at *
      refine ⟨⟨by dsimp only; omega, by dsimp only; omega⟩, ?_, ?_⟩
      · dsimp only; split <;> omega
      · dsimp only
        rw [Int.natAbs_natCast]
        split
        · rw [Int.natAbs_neg, Int.natAbs_natCast]; exact hc
        · rw [Int.natAbs_natCast]; exact hc
/-- A valid fraction is made of its parts. -/
theorem mkFr_self {f : GFrac} (h : fracOk f) : mkFr f.fNum f.fDen = (f, 0) := by
  obtain ⟨⟨h1, h2⟩, ⟨h3, h4⟩, h5⟩ := h
  unfold mkFr
  rw [if_neg (by omega), h5, Nat.div_one, Nat.div_one, if_neg (by omega)]
  congr 1
  obtain ⟨fn, fd⟩ := f
  dsimp only at *
  congr 1
  · by_cases hn : fn < 0
    · rw [if_pos]
      · omega
      · rw [decide_eq_true hn, decide_eq_false (by omega)]; rfl
    · rw [if_neg]
      · omega
      · rw [decide_eq_false hn, decide_eq_false (by omega)]; simp
  · omega
theorem addFr_ok {a b : GFrac} (h : (addFr a b).2 = 0) : fracOk (addFr a b).1 := by
  unfold addFr at h ⊢
  split at h
  · next c => rw [if_pos c]; exact mkFr_ok h
  · exact absurd h (by decide)
def fr01 : GFrac := ⟨0, 1⟩
theorem fracOk_01 : fracOk fr01 := by decide
theorem subFr_self {f : GFrac} (h : fracOk f) : subFr f f = (fr01, 0) := by
  unfold subFr
  rw [if_pos ⟨h, h⟩, Int.sub_self]
  obtain ⟨⟨h1, h2⟩, -, -⟩ := h
  have hp : 0 < f.fDen * f.fDen := Int.mul_pos (by omega) (by omega)
  unfold mkFr
  rw [if_neg (by omega), Int.natAbs_zero, Nat.gcd_zero_left, Nat.zero_div, Nat.div_self (by omega), if_neg (by omega)]
  congr 1
  unfold fr01
  congr 1
  split <;> rfl
theorem mulFr_zero {s : Int} (h : 1 ≤ s ∧ s ≤ 1000) : mulFr fr01 ⟨s, 1⟩ = (fr01, 0) := by
  unfold mulFr
  rw [if_pos ⟨fracOk_01, ⟨by dsimp only; omega, by dsimp only; omega⟩, ⟨by dsimp only; omega, by dsimp only; omega⟩, by simp⟩]
  unfold fr01
  simp only [Int.zero_mul, Int.one_mul]
  unfold mkFr
  simp
theorem addFr_zero {f : GFrac} (h : fracOk f) : addFr f fr01 = (f, 0) := by
  unfold addFr
  rw [if_pos ⟨h, fracOk_01⟩]
  unfold fr01
  simp only [Int.mul_one, Int.zero_mul, Int.add_zero]
  exact mkFr_self h
/-- A beat. -/
def beatOk (f : GFrac) : Prop := fracOk f ∧ 0 ≤ f.fNum ∧ f.fNum ≤ 1000 * f.fDen
/-- A position behind another one by some beats. -/
def onFr (at_ from_ : GFrac) (beat : GFrac) (samples : Int) : GFrac × Int :=
  if (subFr beat from_).2 ≠ 0 then (at_, (subFr beat from_).2)
  else if (mulFr (subFr beat from_).1 ⟨samples, 1⟩).2 ≠ 0 then (at_, (mulFr (subFr beat from_).1 ⟨samples, 1⟩).2)
  else addFr at_ (mulFr (subFr beat from_).1 ⟨samples, 1⟩).1
theorem onFr_ok {at_ from_ beat : GFrac} {s : Int} (h : (onFr at_ from_ beat s).2 = 0) : fracOk (onFr at_ from_ beat s).1 := by
  unfold onFr at h ⊢
  split at h
  · next c => exact absurd h c
  · next c =>
    split at h
    · next d => exact absurd h d
    · next d => rw [if_neg c, if_neg d]; exact addFr_ok h
theorem onFr_self {at_ f : GFrac} {s : Int} (ha : fracOk at_) (hf : fracOk f) (hs : 1 ≤ s ∧ s ≤ 1000) : onFr at_ f f s = (at_, 0) := by
  unfold onFr
  rw [subFr_self hf, if_neg (by simp), mulFr_zero hs, if_neg (by simp), addFr_zero ha]
/-- The position of a beat: from a tempo on, at a position. -/
def posGo (beat : GFrac) : List GTempo → GFrac → GFrac × Int
  | [], at_ => (at_, 0)
  | [x], at_ => onFr at_ x.fBeat beat x.fSamples
  | x :: y :: r, at_ => if 0 < cmpFr y.fBeat beat then onFr at_ x.fBeat beat x.fSamples
    else if (onFr at_ x.fBeat y.fBeat x.fSamples).2 ≠ 0 then onFr at_ x.fBeat y.fBeat x.fSamples
    else posGo beat (y :: r) (onFr at_ x.fBeat y.fBeat x.fSamples).1
def posF (t : List GTempo) (beat : GFrac) : GFrac × Int := posGo beat t fr01
/-- The positions of all tempos up to one exist, from a position on. -/
def chainOk : List GTempo → GFrac → Nat → Prop
  | x :: y :: r, at_, k + 1 => (onFr at_ x.fBeat y.fBeat x.fSamples).2 = 0 ∧ chainOk (y :: r) (onFr at_ x.fBeat y.fBeat x.fSamples).1 k
  | _, _, _ => True
structure TemposOk (l : List GTempo) : Prop where
  some_ : 1 ≤ l.length
  few : l.length ≤ 8
  first : (l.getD 0 ⟨zeroFr, 0⟩).fBeat = fr01
  each : Each l fun i x => (beatOk x.fBeat ∧ 1 ≤ x.fSamples ∧ x.fSamples ≤ 1000) ∧ ∀ p, 0 < i → l[i - 1]? = some p → cmpFr p.fBeat x.fBeat < 0
  chain : chainOk l fr01 l.length
theorem cmp_trans {a b c : GFrac} (ha : 0 < a.fDen) (hb : 0 < b.fDen) (hc : 0 < c.fDen) (h1 : cmpFr a b < 0) (h2 : cmpFr b c < 0) : cmpFr a c < 0 := by
  unfold cmpFr at *
  rw [sgn_neg] at *
  have e1 : a.fNum * b.fDen * c.fDen < b.fNum * a.fDen * c.fDen := Int.mul_lt_mul_of_pos_right (by omega) hc
  have e2 : b.fNum * c.fDen * a.fDen < c.fNum * b.fDen * a.fDen := Int.mul_lt_mul_of_pos_right (by omega) ha
  have e3 : a.fNum * c.fDen * b.fDen < c.fNum * a.fDen * b.fDen := by
    have i1 : a.fNum * b.fDen * c.fDen = a.fNum * c.fDen * b.fDen := by rw [Int.mul_assoc, Int.mul_comm b.fDen, ← Int.mul_assoc]
    have i2 : b.fNum * a.fDen * c.fDen = b.fNum * c.fDen * a.fDen := by rw [Int.mul_assoc, Int.mul_comm a.fDen, ← Int.mul_assoc]
    have i3 : c.fNum * b.fDen * a.fDen = c.fNum * a.fDen * b.fDen := by rw [Int.mul_assoc, Int.mul_comm b.fDen, ← Int.mul_assoc]
    omega
  have := Int.lt_of_mul_lt_mul_right e3 (by omega)
  omega
/-- The beats rise. -/
def Rise : List GTempo → Prop
  | x :: y :: r => cmpFr x.fBeat y.fBeat < 0 ∧ Rise (y :: r)
  | _ => True
theorem cmp_self (a : GFrac) : cmpFr a a = 0 := by unfold cmpFr; rw [Int.sub_self]; rfl
theorem rise_all : ∀ (l : List GTempo) (x : GTempo), Rise (x :: l) → (∀ y ∈ x :: l, 0 < y.fBeat.fDen) → ∀ y ∈ l, cmpFr x.fBeat y.fBeat < 0
  | [], _, _, _ => fun y h => absurd h (by simp)
  | z :: r, x, h, hp => fun y hy => by
    rcases List.mem_cons.1 hy with rfl | hy
    · exact h.1
    · exact cmp_trans (hp x (by simp)) (hp z (by simp)) (hp y (by simp [hy])) h.1 (rise_all r z h.2 (fun q hq => hp q (by simp [List.mem_cons.1 hq])) y hy)
theorem cmp_flip {a b : GFrac} (h : cmpFr a b < 0) : 0 < cmpFr b a := by
  unfold cmpFr at *
  rw [sgn_neg] at h
  rw [sgn_pos]; omega
theorem cmp_not_pos {a b : GFrac} (h : cmpFr a b < 0) : ¬ 0 < cmpFr a b := by omega
/-- The position of a tempo's beat exists just if all positions up to it do. -/
theorem posGo_chain : ∀ (l : List GTempo) (at_ : GFrac) (k : Nat) (x : GTempo), l[k]? = some x → fracOk at_ → Rise l → (∀ y ∈ l, fracOk y.fBeat ∧ 1 ≤ y.fSamples ∧ y.fSamples ≤ 1000) → ((posGo x.fBeat l at_).2 = 0 ↔ chainOk l at_ k)
  | [], _, _, _, h, _, _, _ => by simp at h
  | [y], at_, k, x, h, ha, _, ho => by
    obtain rfl : k = 0 := by have := (List.getElem?_eq_some_iff.1 h).1; simp at this; exact this
    obtain rfl : y = x := by simpa using h
    have := ho y (by simp)
    simp only [posGo, chainOk]
    rw [onFr_self ha this.1 this.2]; simp
  | y :: z :: r, at_, 0, x, h, ha, hr, ho => by
    obtain rfl : y = x := by simpa using h
    have := ho y (by simp)
    simp only [posGo, chainOk]
    rw [if_pos (cmp_flip hr.1), onFr_self ha this.1 this.2]; simp
  | y :: z :: r, at_, k + 1, x, h, ha, hr, ho => by
    have h' : (z :: r)[k]? = some x := by simpa using h
    have hpos : ∀ q ∈ z :: r, 0 < q.fBeat.fDen := fun q hq => by have := (ho q (by simp [List.mem_cons.1 hq])).1.1; omega
    have hz : ¬ 0 < cmpFr z.fBeat x.fBeat := by
      cases k with
      | zero => obtain rfl : z = x := by simpa using h'
                rw [cmp_self]; omega
      | succ k => exact cmp_not_pos (rise_all r z hr.2 hpos x (List.mem_of_getElem? (i := k) (by simpa using h')))
    simp only [posGo, chainOk]
    rw [if_neg hz]
    by_cases hc : (onFr at_ y.fBeat z.fBeat y.fSamples).2 = 0
    · rw [if_neg (by simp [hc]), posGo_chain (z :: r) _ k x h' (onFr_ok hc) hr.2 (fun q hq => ho q (by simp [List.mem_cons.1 hq]))]
      simp [hc]
    · rw [if_pos hc]
      simp [hc]
theorem chainOk_mono : ∀ (l : List GTempo) (at_ : GFrac) (k m : Nat), chainOk l at_ m → k ≤ m → chainOk l at_ k
  | [], _, _, _, _, _ => by simp [chainOk]
  | [_], _, _, _, _, _ => by simp [chainOk]
  | _ :: _ :: _, _, 0, _, _, _ => by simp [chainOk]
  | y :: z :: r, at_, k + 1, m + 1, h, hk => ⟨h.1, chainOk_mono (z :: r) _ k m h.2 (by omega)⟩
  | _ :: _ :: _, _, k + 1, 0, _, hk => by omega
theorem chainOk_last : ∀ (l : List GTempo) (at_ : GFrac) (k : Nat), l.length ≤ k + 1 → chainOk l at_ k → chainOk l at_ l.length
  | [], _, _, _, _ => by simp [chainOk]
  | [_], _, _, _, _ => by simp [chainOk]
  | _ :: _ :: _, _, 0, h, _ => by simp at h
  | y :: z :: r, at_, k + 1, hk, h => ⟨h.1, chainOk_last (z :: r) _ k (by simpa using hk) h.2⟩
theorem rise_of {l : List GTempo} (h : ∀ i x p, l[i]? = some x → 0 < i → l[i - 1]? = some p → cmpFr p.fBeat x.fBeat < 0) : Rise l := by
  induction l with
  | nil => trivial
  | cons y r ih =>
    cases r with
    | nil => trivial
    | cons z r => exact ⟨h 1 z y rfl (by omega) rfl, ih (fun i x p hx hi hp => h (i + 1) x p (by simpa using hx) (by omega) (by
        obtain ⟨j, rfl⟩ : ∃ j, i = j + 1 := ⟨i - 1, by omega⟩
        simpa using hp))⟩
/-- What the program asks of a map is what the reference asks. -/
theorem tempos_iff {l : List GTempo} (some_ : 1 ≤ l.length) (few : l.length ≤ 8) (first : (l.getD 0 ⟨zeroFr, 0⟩).fBeat = fr01)
    (each : Each l fun i x => (beatOk x.fBeat ∧ 1 ≤ x.fSamples ∧ x.fSamples ≤ 1000) ∧ ∀ p, 0 < i → l[i - 1]? = some p → cmpFr p.fBeat x.fBeat < 0) :
    TemposOk l ↔ Each l fun _ x => (posF l x.fBeat).2 = 0 := by
  have hr : Rise l := rise_of (fun i x p hx hi hp => (each i x hx).2 p hi hp)
  have ho : ∀ y ∈ l, fracOk y.fBeat ∧ 1 ≤ y.fSamples ∧ y.fSamples ≤ 1000 := fun y hy => by
    obtain ⟨i, hi⟩ := List.mem_iff_getElem?.1 hy
    have := (each i y hi).1
    exact ⟨this.1.1, this.2⟩
  constructor
  · intro h i x hx
    exact (posGo_chain l fr01 i x hx fracOk_01 hr ho).2 (chainOk_mono _ _ _ _ h.chain (Nat.le_of_lt (List.getElem?_eq_some_iff.1 hx).1))
  · intro h
    refine ⟨some_, few, first, each, chainOk_last l fr01 (l.length - 1) (by omega) ?_⟩
    have hx := List.getElem?_eq_getElem (show l.length - 1 < l.length by omega)
    exact (posGo_chain l fr01 _ _ hx fracOk_01 hr ho).1 (h _ _ hx)
structure TuningOk (t : GTuning) : Prop where
  base : fracOk t.fBase
  octave : fracOk t.fOctave
  pos : 0 < t.fBase.fNum
  wide : 0 < cmpFr t.fOctave ⟨1, 1⟩
  some_ : 1 ≤ t.fRatios.length
  few : t.fRatios.length ≤ 24
  first : t.fRatios.getD 0 zeroFr = ⟨1, 1⟩
  each : Each t.fRatios fun i r => (fracOk r ∧ cmpFr r t.fOctave < 0) ∧ ∀ p, 0 < i → t.fRatios[i - 1]? = some p → cmpFr p r < 0
structure NoteOk (n : GNote) : Prop where
  at_ : beatOk n.fAt
  length : beatOk n.fLength
  some_ : n.fLength.fNum ≠ 0
  end_ : (addFr n.fAt n.fLength).2 = 0
  key : inB n.fKey 0 127 = true
  velocity : inB n.fVelocity 1 127 = true
  channel : inB n.fChannel 0 15 = true
def cmpNote (a b : GNote) : Int := if cmpFr a.fAt b.fAt ≠ 0 then cmpFr a.fAt b.fAt else if a.fChannel ≠ b.fChannel then a.fChannel - b.fChannel else a.fKey - b.fKey
structure ScoreOk (s : GScore) : Prop where
  few : s.fNotes.length ≤ 60
  each : Each s.fNotes fun i x => NoteOk x ∧ ∀ p, 0 < i → s.fNotes[i - 1]? = some p → cmpNote p x < 0
structure DeskOk (d : GDesk) : Prop where
  score : ScoreOk d.fScore
  tempos : TemposOk d.fTempos.fTempos
  tuning : TuningOk d.fTuning
  signal : sigB d.fSignal = true
  session : SessionOk d.fSession
end Go.Proofs.YteiflbhcehajkaaGreatDoor
end
section
namespace Go.Proofs.YteiflbhcehajkaaGreatDoor
open Go.RowKit
theorem T.rd_openG {w : World} {E : TypeId} {sz : Nat} {α : Type} {tr : α → T} {xs : List α} {v : Value} (h : T.rd w (.sl E sz (xs.map tr)) [v]) :
    ∃ A cap, v = .slice A xs.length cap ∧ xs.length ≤ cap ∧ cap ≤ 9223372036854775807 ∧
      (∀ k x, xs[k]? = some x → ∃ b off cs, A = some ⟨b, off, none⟩ ∧ b < w.heap.size ∧ T.rd w (tr x) cs ∧ ∀ j u, cs[j]? = some u → w.cell? ⟨b, off + (k * sz + j), none⟩ = some u) := by
  obtain ⟨A, cap, hv, h1, h2, h3⟩ := T.rd_open h
  rw [List.length_map] at hv h1
  exact ⟨A, cap, hv, h1, h2, fun k x hk => h3 k (tr x) (by rw [List.getElem?_map, hk]; rfl)⟩
theorem T.rds_below' {w w' : World} {x : List T} {cs : List Value} (h : T.rds w x cs) (hb : Below w.heap.size w w') : T.rds w' x cs := T.rds_keep hb.size hb.block x cs h
/-- The struct's cells lie from place o of block b on. -/
def T.at (w : World) (fs : List T) (b o : Nat) : Prop := b < w.heap.size ∧ ∃ cs, T.rds w fs cs ∧ ∀ j u, cs[j]? = some u → w.cell? ⟨b, o + j, none⟩ = some u
theorem T.at_below {w w' : World} {fs : List T} {b o : Nat} (h : T.at w fs b o) (hb : Below w.heap.size w w') : T.at w' fs b o := by
  obtain ⟨h1, cs, h2, h3⟩ := h
  exact ⟨Nat.lt_of_lt_of_le h1 hb.size, cs, T.rds_below' h2 hb, fun j u hj => (hb.cell h1).trans (h3 j u hj)⟩
/-- An element of a slice, as a struct behind a pointer. -/
theorem T.at_elem {w : World} {fs : List T} {b off k sz o : Nat} {cs : List Value} (hb : b < w.heap.size) (h : T.rds w fs cs) (hc : ∀ j u, cs[j]? = some u → w.cell? ⟨b, off + (k * sz + j), none⟩ = some u) (ho : o = off + k * sz) : T.at w fs b o :=
  ⟨hb, cs, h, fun j u hj => by rw [ho, Nat.add_assoc]; exact hc j u hj⟩
/-- A block known whole, as a struct behind a pointer. -/
theorem T.at_bk {w : World} {fs : List T} {b : Nat} {t : TypeId} {cs : List Value} (hk : Bk w b t cs.toArray) (h : T.rds w fs cs) : T.at w fs b 0 :=
  ⟨hk.lt, cs, h, fun j u hj => by rw [Nat.zero_add, hk.cell j]; simpa using hj⟩
theorem beqI_f {a b : Int} (h : a ≠ b) : (a == b) = false := beq_false_of_ne h
theorem beqI_t {a b : Int} (h : a = b) : (a == b) = true := by simp [h]
theorem bneI_t {a b : Int} (h : a ≠ b) : (a != b) = true := by simp [h]
theorem bneI_f {a b : Int} (h : a = b) : (a != b) = false := by simp [h]
/-- Any world in which what lies in W still lies as it did. -/
noncomputable def bel (W u : World) : World := @ite _ (Below W.heap.size W u) (Classical.propDecidable _) u W
theorem bel_below (W u : World) : Below W.heap.size W (bel W u) := by
  unfold bel
  split
  · assumption
  · exact Below.refl _ _
theorem bel_of {W u : World} (h : Below W.heap.size W u) : u = bel W u := by
  unfold bel
  rw [if_pos h]
theorem bel_cell {W : World} {b o : Nat} {v : Value} (h : W.cell? ⟨b, o, none⟩ = some v) : ∀ u, (bel W u).cell? ⟨b, o, none⟩ = some v := fun u =>
  ((bel_below W u).cell (World.block_lt_of_cell? W _ h)).trans h
theorem bel_bk {W : World} {g : Nat} {t : TypeId} {cs : Array Value} (h : Bk W g t cs) : ∀ u i, (bel W u).cell? ⟨g, i, none⟩ = cs[i]? := fun u i =>
  (h.below (bel_below W u) h.lt).cell i
/-- A region that draws its order, whose operations and calls leave what was there as it was: one walk in the order of the text. -/
theorem wp_region_bel {P : Program} {id : Nat} {Q : Exit → Act → World → Prop} {a : Act} {w : World} {l : List Oper} (hm : P.follows .mixedOrders = true) (hB : Region.lexB .any l.toArray = true)
    (h : wpQuiet P l.toArray (fun w' => ∃ u, w' = bel w u) (fun a' => ∀ w', (∃ u, w' = bel w u) → Q .normal a' w') l a) : (Code.region id l.toArray true).wp P Q a w :=
  wp_region_quiet (C := fun w' => ∃ u, w' = bel w u) hm hB ⟨_, bel_of ⟨rfl, rfl, rfl, Nat.le_refl _, fun _ _ => rfl⟩⟩ (by simpa using h)
theorem Calls.quiet_bel {P : Program} {f : FuncId} {args : Array Value} {w u : World} {v : Value}
    (h : Calls P f args (bel w u) fun e w' => e = .returned v ∧ Below (bel w u).heap.size (bel w u) w') : Calls P f args (bel w u) fun e w'' => e = .returned v ∧ ∃ m, w'' = bel w m :=
  h.mono fun _ w' ⟨he, hb⟩ => ⟨he, w', bel_of (bthen (bel_below w u) (bel_below w u).size hb)⟩
theorem Calls.quiet_bel_same {P : Program} {f : FuncId} {args : Array Value} {w u : World} {v : Value}
    (h : Calls P f args (bel w u) fun e w' => e = .returned v ∧ bel w u = w') : Calls P f args (bel w u) fun e w'' => e = .returned v ∧ ∃ m, w'' = bel w m :=
  h.mono fun _ w' ⟨he, hb⟩ => ⟨he, u, hb.symm⟩
end Go.Proofs.YteiflbhcehajkaaGreatDoor
end
section
namespace Go.Proofs.YteiflbhcehajkaaGreatDoor
open Go.RowKit
end Go.Proofs.YteiflbhcehajkaaGreatDoor
end
section
namespace Go.Proofs.YteiflbhcehajkaaGreatDoor
open Go.RowKit
set_option maxHeartbeats 400000 in
theorem c_size (v : Value) (xs : List Int) (w : World) (hr : RdI w v xs) : Calls Tryz.prog 47 #[v] w fun e w' => e = .returned (.int .i64 (xs.length : Int)) ∧ w = w' := by
  obtain ⟨A, cap, rfl, hl, hc, hx⟩ := hr.open_
  clear hx hr
  go_enter Tryz.func47, Tryz.ntmps47
  go_wp2
  go_ret
  exact ⟨rfl, rfl⟩
end Go.Proofs.YteiflbhcehajkaaGreatDoor
end
