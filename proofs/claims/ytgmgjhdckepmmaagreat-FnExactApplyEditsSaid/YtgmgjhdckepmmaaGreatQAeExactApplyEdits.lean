/- A slice of the call's own that grows beside other data of its own. No program is named here. The session after an edit: plain cases; one field of own data replaced. Regions that draw their order and end in one store over a cell that they have loaded. No program is named here. Data without slices in it: copied by append of all. No program is named here. Contracts of the smallest functions. Contracts: lists of samples, copies, differences. Contracts: equal lists, marks, copies, differences. -/
import Derived.Test.YtgmgjhdckepmmaaGreatQAdExactApplyEdits
import Derived.Test.YtgmgjhdckepmmaaGreatQAcExactApplyEdits
import Derived.Deep.RegionHeldLaw
import Derived.StillTail
import Derived.Test.YtgmgjhdckepmmaaGreatQAbExactApplyEdits
import Derived.Test.YtgmgjhdckepmmaaGreatQAaExactApplyEdits
import Derived.Test.YtgmgjhdckepmmaaGreatRows
set_option linter.unusedVariables false
set_option linter.unusedSimpArgs false
section
namespace Go.Proofs.YtgmgjhdckepmmaaGreat
open Go.RowKit
/-- The slice v (elements xs, blocks F) and the other data os (blocks FR), all of the call's own, from B on. -/
structure Grow (B : Nat) (w : World) (E : TypeId) (sz : Nat) (xs : List T) (F : List Nat) (v : Value) (os : List T) (FR : List Nat) (cr : List Value) : Prop where
  own : Own B w (.sl E sz xs) F v
  rest : T.ows w os FR cr
  nd : FR.Nodup
  lo : ∀ b ∈ FR, B ≤ b
  dj : ∀ b ∈ F, b ∉ FR
section
variable {B : Nat} {w w' : World} {E E' : TypeId} {sz sz' : Nat} {xs : List T} {x : T} {F F' Fx FR : List Nat} {v v' : Value} {os : List T} {cr : List Value}
theorem Grow.all (h : Grow B w E sz xs F v os FR cr) (hb : Below w.heap.size w w') : Grow B w' E sz xs F v os FR cr :=
  ⟨h.own.all hb, T.ows_all h.rest hb, h.nd, h.lo, h.dj⟩
theorem Grow.lt (h : Grow B w E sz xs F v os FR cr) : ∀ b ∈ F, b < w.heap.size := h.own.lt
theorem Grow.ltR (h : Grow B w E sz xs F v os FR cr) : ∀ b ∈ FR, b < w.heap.size := T.ows_lt _ _ _ h.rest
theorem Grow.far {g : Nat} (h : Grow B w E sz xs F v os FR cr) (h1 : g ∉ F) (h2 : g ∉ FR) (o : Nat) (u : Value) : Grow B (w.setCell ⟨g, o, none⟩ u) E sz xs F v os FR cr :=
  ⟨⟨T.ow_far h.own.ow h1 o u, h.own.nodup, h.own.lo⟩, T.ows_far h.rest h2 o u, h.nd, h.lo, h.dj⟩
theorem Grow.app (h : Grow B w E sz xs F v os FR cr) (ho : Own B w' (.sl E sz (xs ++ [x])) F' v') (hg : w.grownBy w' v.ownBlock) (hv : ∀ b ∈ F', b ∈ F ∨ b ∈ Fx ∨ w.heap.size ≤ b) (hd : ∀ b ∈ Fx, b ∉ FR) :
    Grow B w' E sz (xs ++ [x]) F' v' os FR cr := by
  refine ⟨ho, T.ows_keep _ _ _ (fun b hb => hg.block b (h.ltR b hb) (fun e => h.dj b (h.own.mem b e.symm) hb)) h.rest, h.nd, h.lo, fun b hb hm => ?_⟩
  rcases hv b hb with k | k | k
  · exact h.dj b k hm
  · exact hd b k hm
  · have := h.ltR b hm; omega
theorem Grow.out {g : Nat} (hv : ∀ b ∈ F', b ∈ F ∨ b ∈ Fx ∨ w.heap.size ≤ b) (h1 : g ∉ F) (h2 : g ∉ Fx) (h3 : g < w.heap.size) : g ∉ F' := fun hm => by
  rcases hv g hm with k | k | k
  · exact h1 k
  · exact h2 k
  · omega
theorem Grow.end_ (h : Grow B w E sz xs F v os FR cr) : T.ows w (os ++ [.sl E sz xs]) (FR ++ F) (cr ++ [v]) ∧ (FR ++ F).Nodup ∧ ∀ b ∈ FR ++ F, B ≤ b := by
  refine ⟨T.ows_snoc h.rest h.own.ow, nodup_app h.nd h.own.nodup (fun b hb hm => h.dj b hm hb), fun b hb => ?_⟩
  rcases List.mem_append.1 hb with hb | hb
  · exact h.lo b hb
  · exact h.own.lo b hb
theorem Grow.next (h : Grow B w E sz xs F v os FR cr) (E' : TypeId) (sz' : Nat) : Grow B w E' sz' [] [] (.slice none 0 0) (os ++ [.sl E sz xs]) (FR ++ F) (cr ++ [v]) :=
  ⟨Own.nil B w E' sz', h.end_.1, h.end_.2.1, h.end_.2.2, by simp⟩
theorem Grow.start {os : List T} {FR : List Nat} {cr : List Value} (h : T.ows w os FR cr) (nd : FR.Nodup) (lo : ∀ b ∈ FR, B ≤ b) (E' : TypeId) (sz' : Nat) : Grow B w E' sz' [] [] (.slice none 0 0) os FR cr :=
  ⟨Own.nil B w E' sz', h, nd, lo, by simp⟩
theorem Grow.form (h : Grow B w E sz xs F v os FR cr) : ∃ A l c, v = .slice A l c := T.ow_slice h.own.ow
theorem Grow.below {w0 : World} (h : Grow B w E sz xs F v os FR cr) (hb : Below B w0 w) (hB : B ≤ w.heap.size) (hg : w.grownBy w' v.ownBlock) : Below B w0 w' := h.own.below hb hB hg
theorem Grow.split {E1 E3 : TypeId} {s1 s3 : Nat} {l1 l3 : List T} {v1 v3 : Value} (h : Grow B w E sz xs F v [.sl E1 s1 l1, .sl E3 s3 l3] FR [v1, v3]) :
    ∃ F1 F3, T.ow w (.sl E1 s1 l1) F1 [v1] ∧ T.ow w (.sl E3 s3 l3) F3 [v3] ∧ (F1 ++ (F ++ (F3 ++ []))).Nodup ∧ (∀ b ∈ F1 ++ (F ++ (F3 ++ [])), B ≤ b) ∧ ∀ g, g ∉ F → g ∉ FR → g ∉ F1 ++ (F ++ (F3 ++ [])) := by
  obtain ⟨u1, r1, F1, F2, rfl, e1, o1, hr⟩ := T.ows_sl.1 h.rest
  obtain ⟨u3, r3, F3, F4, rfl, e3, o3, hr3⟩ := T.ows_sl.1 hr
  obtain ⟨rfl, rfl⟩ := T.ows_nil.1 hr3
  injection e1 with e1 e2
  subst e1
  rw [e3] at e2
  injection e2 with e2 _
  subst e2
  have nd := h.nd
  have hm : ∀ b, b ∈ F1 ++ (F ++ (F3 ++ [])) → b ∈ F ∨ b ∈ F1 ++ (F3 ++ []) := fun b hb => by
    simp only [List.mem_append] at hb ⊢
    rcases hb with hb | hb | hb | hb
    · exact .inr (.inl hb)
    · exact .inl hb
    · exact .inr (.inr (.inl hb))
    · exact .inr (.inr (.inr hb))
  refine ⟨F1, F3, o1, o3, ?_, fun b hb => ?_, fun g h1 h2 hg => ?_⟩
  · refine nodup_app (nodup_fst nd) (nodup_app h.own.nodup (nodup_snd nd) (fun b hb hb2 => h.dj b hb (List.mem_append.2 (.inr hb2)))) (fun b hb hb2 => ?_)
    rcases List.mem_append.1 hb2 with hb2 | hb2
    · exact h.dj b hb2 (List.mem_append.2 (.inl hb))
    · exact nodup_dj nd b hb hb2
  · rcases hm b hb with hb | hb
    · exact h.own.lo b hb
    · exact h.lo b hb
  · rcases hm g hg with hg | hg
    · exact h1 hg
    · exact h2 hg
theorem Bk.drew {g : Nat} {t : TypeId} {cs : Array Value} (h : Bk w g t cs) : Bk w.drew g t cs := h
theorem Bk.far1 {g : Nat} {t : TypeId} {cs : Array Value} (h : Bk w g t cs) (hg : w.grownBy w' v.ownBlock) (hn : g ∉ F) (ho : Own B w (.sl E sz xs) F v) : Bk w' g t cs :=
  h.grown hg (fun e => hn (ho.mem g e.symm))
end
end Go.Proofs.YtgmgjhdckepmmaaGreat
end
section
namespace Go.Proofs.YtgmgjhdckepmmaaGreat
open Go.RowKit
section
variable {s : GSession} {e : GEdit}
theorem applyF_fields (hv : SessionOk s) (h : ¬ FieldsOk e) : applyF s e = (noSession, 1) := by
  unfold applyF
  rw [if_neg (by rw [tf_no (fun k => h k.2)]; simp)]
theorem applyF_range (hv : SessionOk s) (hf : FieldsOk e) (h : ¬ RangeOk s e) : applyF s e = (noSession, 2) := by
  unfold applyF
  rw [if_pos (tf_yes ⟨hv, hf⟩), if_neg (by rw [tf_no h]; simp)]
theorem applyF_full (hv : SessionOk s) (hf : FieldsOk e) (h : RangeOk s e) (h1 : e.fKind = 1) (h2 : 12 ≤ (clipsAt s e.fTrack).length) : applyF s e = (noSession, 5) := by
  unfold applyF
  rw [if_pos (tf_yes ⟨hv, hf⟩), if_pos (tf_yes h), if_pos ⟨h1, h2⟩]
theorem applyF_bad (hv : SessionOk s) (hf : FieldsOk e) (h : RangeOk s e) (h1 : ¬ (e.fKind = 1 ∧ 12 ≤ (clipsAt s e.fTrack).length)) (h2 : ¬ SessionOk (doE s e)) : applyF s e = (noSession, 6) := by
  unfold applyF
  rw [if_pos (tf_yes ⟨hv, hf⟩), if_pos (tf_yes h), if_neg h1, if_neg (by rw [tf_no h2]; simp)]
theorem applyF_feed (hv : SessionOk s) (hf : FieldsOk e) (h : RangeOk s e) (h4 : e.fKind = 4) : applyF s e = ({ s with fFeeds := s.fFeeds.set e.fTrack.toNat e.fValue }, 0) := by
  rw [applyF_of hv hf h (fun k => by omega) (doE_feed hv h h4)]
  unfold doE; rw [if_pos h4]
theorem applyF_send (hv : SessionOk s) (hf : FieldsOk e) (h : RangeOk s e) (h5 : e.fKind = 5) :
    applyF s e = ({ s with fMixer := ⟨turnAt s.fMixer.fStrips e.fTrack.toNat fun x => { x with fSends := turnAt x.fSends e.fClip.toNat fun y => { y with fGain := e.fValue } }⟩ }, 0) := by
  rw [applyF_of hv hf h (fun k => by omega) (doE_send hv h h5)]
  unfold doE; rw [if_neg (by omega), if_pos h5]
theorem applyF_clips (hv : SessionOk s) (hf : FieldsOk e) (h : RangeOk s e) (h1 : ¬ (e.fKind = 1 ∧ 12 ≤ (clipsAt s e.fTrack).length)) (h4 : e.fKind ≠ 4) (h5 : e.fKind ≠ 5) {k : Nat} {t : GTrack} (hk : e.fTrack = (k : Int)) (ht : s.fTracks[k]? = some t) :
    applyF s e = if tf (TrackOk ⟨editL t.fClips e⟩) = true then ({ s with fTracks := s.fTracks.set k ⟨editL t.fClips e⟩ }, 0) else (noSession, 6) := by
  have ht' : s.fTracks[e.fTrack.toNat]? = some t := by rw [hk, Int.toNat_natCast]; exact ht
  have hd := doE_clips hv hf h h4 h5 ht'
  by_cases ho : TrackOk ⟨editL t.fClips e⟩
  · rw [if_pos (tf_yes ho), applyF_of hv hf h h1 (hd.2 ho), doE_kind s e h4 h5, hk, Int.toNat_natCast, turnAt_of ht]
  · rw [if_neg (by rw [tf_no ho]; simp), applyF_bad hv hf h h1 (fun k => ho (hd.1 k))]
end
/-- One part of data of the call's own. -/
theorem T.ows_part {w : World} {pre post : List T} {x : T} {F : List Nat} {cs : List Value} (h : T.ows w (pre ++ x :: post) F cs) (nd : F.Nodup) :
    ∃ Fp Fx Fq cp cx cq, F = Fp ++ (Fx ++ Fq) ∧ cs = cp ++ (cx ++ cq) ∧ cp.length = T.wides pre ∧ T.ow w x Fx cx ∧ Fx.Nodup ∧
      ∀ w' x' Fy cy, Trn Fx w w' → T.ow w' x' Fy cy → Fy.Nodup → (∀ b ∈ Fy, b ∈ Fx ∨ w.heap.size ≤ b) →
        T.ows w' (pre ++ x' :: post) (Fp ++ (Fy ++ Fq)) (cp ++ (cy ++ cq)) ∧ (Fp ++ (Fy ++ Fq)).Nodup ∧ ∀ b ∈ Fp ++ (Fy ++ Fq), b ∈ F ∨ w.heap.size ≤ b := by
  obtain ⟨Fp, F2, cp, c2, rfl, rfl, h1, h2⟩ := (T.ows_app _ _ _ _).1 h
  simp only [T.ows] at h2
  obtain ⟨Fx, Fq, cx, cq, rfl, rfl, h3, h4⟩ := h2
  have n1 := nodup_fst nd
  have n2 := nodup_snd nd
  have d1 := nodup_dj nd
  have d2 := nodup_dj n2
  refine ⟨Fp, Fx, Fq, cp, cx, cq, rfl, rfl, T.ows_len h1, h3, nodup_fst n2, fun w' x' Fy cy ht hy ny hn => ⟨?_, ?_, ?_⟩⟩
  · refine (T.ows_app _ _ _ _).2 ⟨Fp, Fy ++ Fq, cp, cy ++ cq, rfl, rfl, T.ows_trn h1 ht (fun b hb hm => d1 b hb (List.mem_append.2 (.inl hm))), ?_⟩
    simp only [T.ows]
    exact ⟨Fy, Fq, cy, cq, rfl, rfl, hy, T.ows_trn h4 ht (fun b hb hm => d2 b hm hb)⟩
  · refine nodup_app n1 (nodup_app ny (nodup_snd n2) (fun b hb hm => ?_)) (fun b hb hm => ?_)
    · rcases hn b hb with k | k
      · exact d2 b k hm
      · have := T.ows_lt _ _ _ h4 b hm; omega
    · rcases List.mem_append.1 hm with hm | hm
      · rcases hn b hm with k | k
        · exact d1 b hb (List.mem_append.2 (.inl k))
        · have := T.ows_lt _ _ _ h1 b hb; omega
      · exact d1 b hb (List.mem_append.2 (.inr hm))
  · intro b hb
    rcases List.mem_append.1 hb with hb | hb
    · exact .inl (List.mem_append.2 (.inl hb))
    · rcases List.mem_append.1 hb with hb | hb
      · rcases hn b hb with k | k
        · exact .inl (List.mem_append.2 (.inr (List.mem_append.2 (.inl k))))
        · exact .inr k
      · exact .inl (List.mem_append.2 (.inr (List.mem_append.2 (.inr hb))))
end Go.Proofs.YtgmgjhdckepmmaaGreat
end
section
namespace Go.Proofs.YtgmgjhdckepmmaaGreat
open Go.RowKit
section
variable {P : Program} {ops : Array Oper} {Q : Exit → Act → World → Prop} {md : Region.Mode} {S : World → Prop} {n : Nat}
/-- Whatever order is picked from here on; behind every operation but number n, which waits for all others, S holds. -/
def wpAnyE (P : Program) (md : Region.Mode) (ops : Array Oper) (Q : Exit → Act → World → Prop) (S : World → Prop) (n : Nat) : Nat → Array Bool → Act → World → Prop
  | 0, listed, a, w => Region.ready md ops listed = [] ∧ Q .normal a w
  | fuel + 1, listed, a, w =>
    (Region.ready md ops listed = [] → Q .normal a w) ∧
    ∀ i ∈ Region.ready md ops listed, wpOp P ops Q i (fun a' w' => (i = n ∨ S w') ∧ wpAnyE P md ops Q S n fuel (listed.setIfInBounds i true) a' w') a w
theorem wpAny_of_E : ∀ (fuel : Nat) (listed : Array Bool) (a : Act) (w : World), wpAnyE P md ops Q S n fuel listed a w → wpAny P md ops Q fuel listed a w
  | 0, _, _, _, h => h
  | fuel + 1, _, _, _, h => ⟨h.1, fun i hi => wpOp_mono (fun a' w' h' => wpAny_of_E fuel _ a' w' h'.2) (h.2 i hi)⟩
theorem wpAnyE_first {i : Nat} {oi : Oper} {v : Value} (hn : Region.waitsFor md ops n i = true) (hi : ops[i]? = some oi) (hsel : ∀ (j : Nat) (o : Oper) cs b, ops[j]? = some o → o.op ≠ .select cs b)
    (hQ : ∀ c a w, Q (.panic c) (a.put oi.dst v) w → Q (.panic c) a w) :
    ∀ (fuel : Nat) (listed : Array Bool) (a : Act) (w : World),
      (∀ j oj, ops[j]? = some oj → j ≠ i → listed.getD j true = false → (∀ e ∈ oj.after, Region.binds md e = true → e.on ≠ i) → oi.apart ops oj = true) →
      i ∈ Region.ready md ops listed → YieldsIf P ops S oi v a → S w →
      wpAnyE P md ops Q S n fuel (listed.setIfInBounds i true) (a.put oi.dst v) w → wpAnyE P md ops Q S n (fuel + 1) listed a w := by
  have late : ∀ {listed : Array Bool} {j : Nat}, i ∈ Region.ready md ops listed → j ∈ Region.ready md ops listed → j ≠ n := by
    intro listed j hr hj e
    subst e
    obtain ⟨oj, hoj, e, he, hb, heq⟩ := Region.waitsFor_spec hn
    obtain ⟨_, oj', hoj', hall⟩ := mem_ready.1 hj
    obtain rfl : oj = oj' := Option.some.inj (hoj.symm.trans hoj')
    have h1 := hall e he hb
    have h0 := (mem_ready.1 hr).1
    rw [heq, getD_both h0] at h1
    cases h1
  intro fuel
  induction fuel with
  | zero =>
    intro listed a w _ hr hy hS H
    refine ⟨fun h => (by rw [h] at hr; cases hr), fun j hj => ?_⟩
    by_cases hji : j = i
    · subst hji; exact hy.wpOp hi hS ⟨.inr hS, H⟩
    · have := ready_mono hj hji
      rw [H.1] at this
      cases this
  | succ fuel ih =>
    intro listed a w hfree hr hy hS H
    refine ⟨fun h => (by rw [h] at hr; cases hr), fun j hj => ?_⟩
    by_cases hji : j = i
    · subst hji; exact hy.wpOp hi hS ⟨.inr hS, H⟩
    · have h1 := H.2 j (ready_mono hj hji)
      obtain ⟨hjun, oj, hoj, hall⟩ := mem_ready.1 hj
      have hun := (mem_ready.1 hr).1
      have hnot : ∀ e ∈ oj.after, Region.binds md e = true → e.on ≠ i := fun e he hb heq => by
        have h1 := hall e he hb
        rw [heq, getD_both hun] at h1
        cases h1
      have h2 := wpOp_putIf hoj (hfree j oj hoj hji hjun hnot) (fun cs b => hsel i oi cs b hi) (fun cs b => hsel j oj cs b hoj) hQ hy h1
      have hfree' : ∀ k ok, ops[k]? = some ok → k ≠ i → (listed.setIfInBounds j true).getD k true = false →
          (∀ e ∈ ok.after, Region.binds md e = true → e.on ≠ i) → oi.apart ops ok = true := fun k ok hk hki hun hno => by
        refine hfree k ok hk hki ?_ hno
        by_cases hjk : j = k
        · subst hjk; exact hjun
        · rw [getD_set_ne true hjk] at hun; exact hun
      have hjn := late hr hj
      refine wpOp_mono (fun a' w' h3 => ?_) h2
      have hS' : S w' := h3.2.1.resolve_left hjn
      refine ⟨.inr hS', ih (listed.setIfInBounds j true) a' w' hfree' (ready_mono hr (Ne.symm hji)) h3.1 hS' ?_⟩
      rw [Array.setIfInBounds_comm _ _ hji]
      exact h3.2.2
/-- Take number i first. -/
theorem wpAnyE_take {i : Nat} {oi : Oper} {v : Value} {fuel : Nat} {listed : Array Bool} {a : Act} {w : World} (hn : Region.waitsFor md ops n i = true) (hi : ops[i]? = some oi)
    (hs : Region.noSelect ops = true) (hf : Region.free md ops listed i = true) (hr : (Region.ready md ops listed).contains i = true)
    (hQ : ∀ c a w, Q (.panic c) (a.put oi.dst v) w → Q (.panic c) a w) (hS : S w) (hw : Region.wanted oi (yielded ops a.tmps) = true) (hy : ∀ w, S w → (execOp a.eval oi).run P w = .ok (.value v) w)
    (h : wpAnyE P md ops Q S n fuel (listed.setIfInBounds i true) (a.put oi.dst v) w) : wpAnyE P md ops Q S n (fuel + 1) listed a w :=
  wpAnyE_first hn hi (Region.noSelect_spec hs) hQ fuel listed a w (Region.free_spec hi hf) (by simpa using hr) (.inl ⟨hw, hy⟩) hS h
/-- Number i alone may come up. -/
theorem wpAnyE_one {i : Nat} {o : Oper} {fuel : Nat} {listed : Array Bool} {a : Act} {w : World} (hr : Region.ready md ops listed = [i]) (ho : ops[i]? = some o)
    (h : ∀ K' : Act → World → Prop, Shut (∀ a w, S w → (S w → wpAnyE P md ops Q S n fuel (listed.setIfInBounds i true) a w) → K' a w) → if Region.wanted o (yielded ops a.tmps) = true then Oper.wp P o a w K' Q else K' (a.put o.dst undef) w) :
    wpAnyE P md ops Q S n (fuel + 1) listed a w :=
  ⟨fun h0 => (by rw [hr] at h0; cases h0), fun j hj => by
    rw [hr, List.mem_singleton] at hj
    subst hj
    exact wpOp_step ho (fun K' hK => h K' (fun a w hS hW => hK a w ⟨.inr hS, hW hS⟩))⟩
/-- Number n comes up last. -/
theorem wpAnyE_tail {o : Oper} {fuel : Nat} {listed : Array Bool} {a : Act} {w : World} (hr : Region.ready md ops listed = [n]) (ho : ops[n]? = some o) (hr2 : Region.ready md ops (listed.setIfInBounds n true) = [])
    (h : wpList P ops Q [o] a w) : wpAnyE P md ops Q S n (fuel + 1) listed a w :=
  ⟨fun h0 => (by rw [hr] at h0; cases h0), fun j hj => by
    rw [hr, List.mem_singleton] at hj
    subst hj
    have hw : wpOp P ops Q j (wpList P ops Q []) a w := by unfold wpOp; simp only [ho]; exact h
    refine wpOp_mono (fun a' w' h' => ⟨.inl rfl, ?_⟩) hw
    have h' : Q .normal a' w' := h'
    cases fuel with
    | zero => exact ⟨hr2, h'⟩
    | succ f => exact ⟨fun _ => h', by rw [hr2]; simp⟩⟩
/-- The beginning: S is shown of the world behind the draw. -/
theorem wp_region_E {id : Nat} {a : Act} {w : World} (S : World → Prop) (n : Nat) (hm : P.follows .mixedOrders = true) (hS : S w.drew)
    (h : S w.drew → wpAnyE P .any ops Q S n ops.size (Array.replicate ops.size false) a w.drew) : (Code.region id ops true).wp P Q a w :=
  wp_region_any hm (wpAny_of_E _ _ _ _ (h hS))
end
end Go.Proofs.YtgmgjhdckepmmaaGreat
end
section
namespace Go.Proofs.YtgmgjhdckepmmaaGreat
open Go.RowKit
/-- Data that has no slices in it reads the same in every world and owns nothing. -/
def T.flat (w : World) (x : T) : Prop := ∀ w' cs, T.rd w' x cs → T.ow w x [] cs
theorem GClip.flat (w : World) (x : GClip) : T.flat w x.t := fun w' cs h => by
  simp only [GClip.t, T.rd] at h
  obtain rfl := GClip.rd_open h
  exact T.ow_st GClip.ow_mk
theorem GSend.flat (w : World) (x : GSend) : T.flat w x.t := fun w' cs h => by
  simp only [GSend.t, T.rd] at h
  obtain rfl := GSend.rd_open h
  exact T.ow_st GSend.ow_mk
theorem T.ows_flat {w w' : World} : ∀ {xs : List T} {cs : List Value}, (∀ x ∈ xs, T.flat w x) → T.rds w' xs cs → T.ows w xs [] cs
  | [], cs, _, h => by simp only [T.rds] at h; subst h; exact T.c_oe
  | x :: r, cs, hf, h => by
    simp only [T.rds] at h
    obtain ⟨c1, c2, rfl, h1, h2⟩ := h
    simp only [T.ows]
    exact ⟨[], [], c1, c2, rfl, rfl, hf x (by simp) w' c1 h1, T.ows_flat (fun y hy => hf y (by simp [hy])) h2⟩
theorem T.ows_flat_map {w w' : World} {α : Type} {tr : α → T} {xs : List α} {cs : List Value} (hf : ∀ x, T.flat w (tr x)) (h : T.rds w' (xs.map tr) cs) : T.ows w (xs.map tr) [] cs :=
  T.ows_flat (fun x hx => by obtain ⟨y, _, rfl⟩ := List.mem_map.1 hx; exact hf y) h
theorem T.rd_row {w : World} {E : TypeId} {sz : Nat} {xs : List T} {v : Value} (h : T.rd w (.sl E sz xs) [v]) : ∃ es, Rd w v sz xs.length es ∧ T.rds w xs es := by
  simp only [T.rd] at h
  obtain ⟨v', es, hv, _, h1, h2⟩ := h
  obtain rfl : v = v' := by simpa using hv
  exact ⟨es, h1, h2⟩
/-- A struct in blocks of its own, from B on. -/
structure Nx (B : Nat) (w : World) (xs : List T) (F : List Nat) (cs : List Value) : Prop where
  ows : T.ows w xs F cs
  nodup : F.Nodup
  lo : ∀ b ∈ F, B ≤ b
theorem Nx.all {B : Nat} {w w' : World} {xs : List T} {F : List Nat} {cs : List Value} (h : Nx B w xs F cs) (hb : Below w.heap.size w w') : Nx B w' xs F cs := ⟨T.ows_all h.ows hb, h.nodup, h.lo⟩
theorem Nx.of_nw {B : Nat} {w w' : World} {xs : List T} {F : List Nat} {cs : List Value} (h : Nw w w' xs F cs) (hB : B ≤ w.heap.size) : Nx B w' xs F cs := ⟨h.ows, h.nodup, fun b hb => Nat.le_trans hB (h.lo b hb)⟩
theorem perm_of_count {A B : List Nat} (h : ∀ a, A.count a = B.count a) : A.Perm B := List.perm_iff_count.2 h
theorem Grow.split4 {B : Nat} {w : World} {E : TypeId} {sz : Nat} {xs : List T} {F FR : List Nat} {v : Value} {E1 E2 E3 E4 : TypeId} {s1 s2 s3 s4 : Nat} {l1 l2 l3 l4 : List T} {v1 v2 v3 v4 : Value}
    (h : Grow B w E sz xs F v [.sl E1 s1 l1, .sl E3 s3 l3, .sl E2 s2 l2, .sl E4 s4 l4] FR [v1, v3, v2, v4]) :
    ∃ F1 F2 F3 F4, T.ow w (.sl E1 s1 l1) F1 [v1] ∧ T.ow w (.sl E2 s2 l2) F2 [v2] ∧ T.ow w (.sl E3 s3 l3) F3 [v3] ∧ T.ow w (.sl E4 s4 l4) F4 [v4] ∧ (F1 ++ (F2 ++ (F3 ++ (F4 ++ (F ++ []))))).Nodup ∧
      (∀ b ∈ F1 ++ (F2 ++ (F3 ++ (F4 ++ (F ++ [])))), B ≤ b) ∧ ∀ g, g ∉ F → g ∉ FR → g ∉ F1 ++ (F2 ++ (F3 ++ (F4 ++ (F ++ [])))) := by
  obtain ⟨u1, r1, F1, G1, rfl, e1, o1, h1⟩ := T.ows_sl.1 h.rest
  obtain ⟨u3, r3, F3, G3, rfl, e3, o3, h3⟩ := T.ows_sl.1 h1
  obtain ⟨u2, r2, F2, G2, rfl, e2, o2, h2⟩ := T.ows_sl.1 h3
  obtain ⟨u4, r4, F4, G4, rfl, e4, o4, h4⟩ := T.ows_sl.1 h2
  obtain ⟨rfl, rfl⟩ := T.ows_nil.1 h4
  subst e4 e2 e3
  injection e1 with e1 e
  injection e with e3 e
  injection e with e2 e
  injection e with e4 _
  subst e1 e2 e3 e4
  have hp : (F1 ++ (F2 ++ (F3 ++ (F4 ++ (F ++ []))))).Perm (F ++ (F1 ++ (F3 ++ (F2 ++ (F4 ++ []))))) := perm_of_count fun a => by
    simp only [List.count_append, List.count_nil]; omega
  have hn : (F ++ (F1 ++ (F3 ++ (F2 ++ (F4 ++ []))))).Nodup := nodup_app h.own.nodup h.nd h.dj
  refine ⟨F1, F2, F3, F4, o1, o2, o3, o4, hp.nodup_iff.2 hn, fun b hb => ?_, fun g h1 h2 hg => ?_⟩
  · rcases List.mem_append.1 (hp.mem_iff.1 hb) with hb | hb
    · exact h.own.lo b hb
    · exact h.lo b hb
  · rcases List.mem_append.1 (hp.mem_iff.1 hg) with hg | hg
    · exact h1 hg
    · exact h2 hg
theorem GPatch.sl3 {w : World} {x : GPatch} {p1 p2 p3 : Value} (h : T.rds w x.fs [.int .i64 x.fInputs, p1, p2, p3]) : (∃ A l c, p1 = .slice A l c) ∧ (∃ A l c, p2 = .slice A l c) ∧ ∃ A l c, p3 = .slice A l c := by
  obtain ⟨v1, v2, v3, e, h1, h2, h3⟩ := GPatch.rd_open h
  injection e with _ e
  injection e with e1 e
  injection e with e2 e
  injection e with e3 _
  subst e1 e2 e3
  exact ⟨T.rd_slice h1, T.rd_slice h2, T.rd_slice h3⟩
/-- A row of flat data, the call's own. -/
theorem Own.of_flat {B : Nat} {w w' : World} {E : TypeId} {sz n : Nat} {v : Value} {α : Type} {tr : α → T} {xs : List α} {es : List Value} (hf : ∀ x, T.flat w (tr x)) (hw : ∀ x, T.wide (tr x) = sz)
    (h : w.ownsRow B E sz v n es) (hr : T.rds w' (xs.map tr) es) (hn : n = xs.length) : Own B w (.sl E sz (xs.map tr)) v.ownBlock.toList v := by
  refine ⟨?_, by cases v.ownBlock <;> simp, fun b hb => (h.lt b (by simpa using hb)).1⟩
  simp only [T.ow]
  refine ⟨v, es, [], rfl, by simp, ?_, by rw [List.length_map, ← hn]; exact own_more h (Nat.zero_le _), T.ows_flat_map hf hr⟩
  intro x hx
  obtain ⟨y, _, rfl⟩ := List.mem_map.1 hx
  exact hw y
end Go.Proofs.YtgmgjhdckepmmaaGreat
end
section
namespace Go.Proofs.YtgmgjhdckepmmaaGreat
open Go.RowKit
set_option maxHeartbeats 400000 in
theorem c_l00In (n a b : Int) (w : World) : Calls Tryz.prog 141 #[.int .i64 n, .int .i64 a, .int .i64 b] w fun e w' => e = .returned (.bool (inB n a b)) ∧ w = w' := by
  by_cases h : a ≤ n
  all_goals
    go_enter Tryz.func141, Tryz.ntmps141
    go_wp2
    go_ret
    exact ⟨by first | (simp [inB, h]; done) | (simp [inB]; omega), rfl⟩
set_option maxHeartbeats 400000 in
theorem c_within (n a b : Int) (w : World) : Calls Tryz.prog 103 #[.int .i64 n, .int .i64 a, .int .i64 b] w fun e w' => e = .returned (.bool (inB n a b)) ∧ w = w' := by
  by_cases h : a ≤ n
  all_goals
    go_enter Tryz.func103, Tryz.ntmps103
    go_wp2
    go_ret
    exact ⟨by first | (simp [inB, h]; done) | (simp [inB]; omega), rfl⟩
theorem c_l01Sample (n : Int) (w : World) : Calls Tryz.prog 160 #[.int .i64 n] w fun e w' => e = .returned (.bool (decide (Smp n))) ∧ w = w' := by
  go_enter Tryz.func160, Tryz.ntmps160
  go_wp2_with (go_at_call 141; refine (c_l00In _ _ _ _).mono ?_; rintro e w' ⟨rfl, rfl⟩)
  go_ret
  exact ⟨rfl, rfl⟩
theorem c_isSample (n : Int) (w : World) : Calls Tryz.prog 171 #[.int .i64 n] w fun e w' => e = .returned (.bool (decide (Smp n))) ∧ w = w' := by
  go_enter Tryz.func171, Tryz.ntmps171
  go_wp2_with (go_at_call 103; refine (c_within _ _ _ _).mono ?_; rintro e w' ⟨rfl, rfl⟩)
  go_ret
  exact ⟨rfl, rfl⟩
set_option maxHeartbeats 400000 in
theorem c_l03Ok (v : Value) (xs : List Int) (w : World) (hr : RdI w v xs) : Calls Tryz.prog 143 #[v] w fun e w' => e = .returned (.bool (sigB xs)) ∧ w = w' := by
  obtain ⟨A, cap, rfl, hl, hc, hx⟩ := hr.open_
  have HX := hide hx; clear hx hr
  by_cases h4 : xs.length ≤ 4000
  · go_enter Tryz.func143, Tryz.ntmps143
    go_wp2
    go_loop [3] (fun i => ∃ k : Nat, k ≤ xs.length ∧ i = .int .i64 k ∧ smpB (xs.take k) = true) (fun i => xs.length - (intOf i).toNat)
    case atStart => exact ⟨0, Nat.zero_le _, rfl, by simp [smpB]⟩
    case round =>
      obtain ⟨k, hk, rfl, hs⟩ := hrel
      have HS := hide hs; clear hs
      by_cases hlt : k < xs.length
      · obtain ⟨b, off, rfl, hb, hcell⟩ := HX.out k xs[k] (List.getElem?_eq_getElem hlt)
        by_cases hsm : Smp xs[k]
        · have hd : decide (Smp xs[k]) = true := by simpa using hsm
          go_wp2_with (go_at_call 160; refine (c_l01Sample _ _).mono ?_; rintro e w' ⟨rfl, rfl⟩)
          go_round
          case rel => exact ⟨k + 1, by omega, by go_num, smpB_take_succ (List.getElem?_eq_getElem hlt) HS.out hsm⟩
          case measure => simp [intOf]; omega
        · have hd : decide (Smp xs[k]) = false := by simpa using hsm
          go_wp2_with (go_at_call 160; refine (c_l01Sample _ _).mono ?_; rintro e w' ⟨rfl, rfl⟩)
          go_ret
          exact ⟨by simp [sigB, smpB_no (List.getElem?_eq_getElem hlt) hsm], rfl⟩
      · go_wp2
        go_ret
        have : k = xs.length := by omega
        subst this
        have := HS.out
        rw [List.take_length] at this
        exact ⟨by simp [sigB, h4, this], rfl⟩
  · go_enter Tryz.func143, Tryz.ntmps143
    go_wp2
    go_ret
    exact ⟨by simp [sigB]; omega, rfl⟩
end Go.Proofs.YtgmgjhdckepmmaaGreat
end
section
namespace Go.Proofs.YtgmgjhdckepmmaaGreat
open Go.RowKit
theorem info_i64 : (Tryz.prog.info? 2).map (fun i => (i.zero, i.size, i.bytes)) = some (some (.int .i64 0), 1, 8) := by kernel_rfl
theorem app1_i64 {w : World} {ops : Array Oper} {rest : List Oper} {o : Oper} {a : Act} {Q : Exit → Act → World → Prop} {n : Int} (hgd : o.guard = none) (s x : Operand)
    (ho : o.op = .call { callee := .builtin .append, args := #[s, x], argTypes := #[26, 26] }) {B : Nat} {v : Value} {xs : List Int} (hs : a.eval s = v) (hown : OwI 2 w B v xs)
    (hx : a.eval x = .slice (some ⟨w.heap.size, 0, none⟩) 1 1) (hl : xs.length + 1 ≤ 17592186044416) (hB : B ≤ w.heap.size)
    (h : ∀ v' w', OwI 2 w' B v' (xs ++ [n]) → w.grownBy w' v.ownBlock → (∀ k, v'.ownBlock = some k → v.ownBlock = some k ∨ w.heap.size ≤ k) → wpList Tryz.prog ops Q rest (a.put o.dst v') w') :
    wpList Tryz.prog ops Q (o :: rest) a (w.alloc (.cells #[.int .i64 n] 2)) :=
  app_one hgd s x _ ho B _ _ 1 8 Tryz.underlying26 info_i64 rfl (by omega) v xs.length _ hs hown hx rfl (by simp [Value.oneCell']) (by omega) (by omega) hB
    fun v' w' h1 h2 h3 => h v' w' (by unfold OwI; simpa using h1) h2 h3
theorem appm_i64 {w : World} {ops : Array Oper} {rest : List Oper} {o : Oper} {a : Act} {Q : Exit → Act → World → Prop} (hgd : o.guard = none) (s x : Operand)
    (ho : o.op = .call { callee := .builtin .append, args := #[s, x], argTypes := #[26, 26] }) {B : Nat} {v : Value} {xs : List Int} (hs : a.eval s = v) (hown : OwI 2 w B v xs)
    {y : Value} {ys : List Int} (hx : a.eval x = y) (hr : RdI w y ys) (hl : xs.length + ys.length ≤ 17592186044416) (hB : B ≤ w.heap.size)
    (h : ∀ v' w', OwI 2 w' B v' (xs ++ ys) → w.grownBy w' v.ownBlock → (∀ k, v'.ownBlock = some k → v.ownBlock = some k ∨ w.heap.size ≤ k) → wpList Tryz.prog ops Q rest (a.put o.dst v') w') :
    wpList Tryz.prog ops Q (o :: rest) a w :=
  app_many hgd s x _ ho B _ _ 1 8 Tryz.underlying26 info_i64 rfl (by omega) v xs.length _ hs hown y ys.length _ hx hr (ints_oneCell _ _) (by omega) (by omega) hB
    fun v' w' h1 h2 h3 => h v' w' (by unfold OwI; simpa using h1) h2 h3
theorem new_i64 (w : World) : OwI 2 (w.alloc (.cells #[] 2)) w.heap.size (.slice (some ⟨w.heap.size, 0, none⟩) 0 0) [] := World.ownsRow_made w #[] 0 (Nat.le_refl _) (by decide) rfl
set_option maxHeartbeats 400000 in
theorem c_areSamples (v : Value) (xs : List Int) (w : World) (hr : RdI w v xs) : Calls Tryz.prog 151 #[v] w fun e w' => e = .returned (.bool (smpB xs)) ∧ w = w' := by
  obtain ⟨A, cap, rfl, hl, hc, hx⟩ := hr.open_
  have HX := hide hx; clear hx hr
  go_enter Tryz.func151, Tryz.ntmps151
  go_wp2
  go_loop [7] (fun i => ∃ k : Nat, k ≤ xs.length ∧ i = .int .i64 k ∧ smpB (xs.take k) = true) (fun i => xs.length - (intOf i).toNat)
  case atStart => exact ⟨0, Nat.zero_le _, rfl, by simp [smpB]⟩
  case round =>
    obtain ⟨k, hk, rfl, hs⟩ := hrel
    have HS := hide hs; clear hs
    by_cases hlt : k < xs.length
    · obtain ⟨b, off, rfl, hb, hcell⟩ := HX.out k xs[k] (List.getElem?_eq_getElem hlt)
      by_cases hsm : Smp xs[k]
      · have hd : decide (Smp xs[k]) = true := by simpa using hsm
        go_wp2_with (go_at_call 171; refine (c_isSample _ _).mono ?_; rintro e w' ⟨rfl, rfl⟩)
        go_round
        case rel => exact ⟨k + 1, by omega, by go_num, smpB_take_succ (List.getElem?_eq_getElem hlt) HS.out hsm⟩
        case measure => simp [intOf]; omega
      · have hd : decide (Smp xs[k]) = false := by simpa using hsm
        go_wp2_with (go_at_call 171; refine (c_isSample _ _).mono ?_; rintro e w' ⟨rfl, rfl⟩)
        go_ret
        exact ⟨by simp [smpB_no (List.getElem?_eq_getElem hlt) hsm], rfl⟩
    · go_wp2
      go_ret
      have : k = xs.length := by omega
      subst this
      have := HS.out
      rw [List.take_length] at this
      exact ⟨by simp [this], rfl⟩
set_option maxHeartbeats 400000 in
theorem c_isSignal (v : Value) (xs : List Int) (w : World) (hr : RdI w v xs) : Calls Tryz.prog 202 #[v] w fun e w' => e = .returned (.bool (sigB xs)) ∧ w = w' := by
  obtain ⟨A, cap, rfl, hl, hc, hx⟩ := hr.open_
  have HX := hide hx; clear hx
  have HR := hide hr; clear hr
  by_cases h4 : xs.length ≤ 4000
  all_goals
    go_enter Tryz.func202, Tryz.ntmps202
    go_wp2_with (go_at_call 151; refine (c_areSamples _ _ _ HR.out).mono ?_; rintro e w' ⟨rfl, rfl⟩)
    go_ret
    first | exact ⟨by simp [sigB, h4], rfl⟩ | exact ⟨by simp [sigB]; omega, rfl⟩
set_option maxHeartbeats 400000 in
theorem c_toInt64S (v : Value) (xs : List Int) (w : World) (hr : RdI w v xs) (hn : xs.length ≤ 1048576) : Calls Tryz.prog 62 #[v] w fun e w' => ∃ v', e = .returned v' ∧ OwI 2 w' w.heap.size v' xs ∧ Below w.heap.size w w' := by
  obtain ⟨A, cap, rfl, hl, hc, hx⟩ := hr.open_
  have HX := hide hx; clear hx
  have HR := hide hr; clear hr
  obtain ⟨i0, hi, hz0, hz1, hz2⟩ := info_parts info_i64
  go_enter Tryz.func62, Tryz.ntmps62
  go_wp2_with (at_make; refine wpList_make_full _ rfl _ _ _ rfl w.heap.size 2 i0 _ 1 Tryz.underlying26 hi hz0 hz1 .i64 .i64 _ _ xs.length rfl rfl rfl rfl (by rw [hz2]; omega) (by unfold maxLen; omega) (Nat.le_refl _) ?_; intro w1 hown1 hg1)
  have ho1 : OwI 2 w1 w.heap.size _ _ := OwI.made _ w1 (n := xs.length) hg1.size (by unfold maxLen; omega) 0 hown1
  have hb1 : Below w.heap.size w w1 := (Below.refl _ _).grown hg1 (Nat.le_refl _) (by simp)
  clear hown1 hg1
  have HO := hide ho1; have HB := hide hb1; clear ho1 hb1
  go_loopw [4] (fun i wr => ∃ k : Nat, k ≤ xs.length ∧ i = .int .i64 k ∧ OwI 2 wr w.heap.size (.slice (some ⟨w.heap.size, 0, none⟩) xs.length xs.length) (xs.take k ++ (List.replicate xs.length 0).drop k) ∧ Below w.heap.size w wr) (fun i _ => xs.length - (intOf i).toNat)
  case atStart => exact ⟨0, Nat.zero_le _, rfl, by simpa using HO.out, HB.out⟩
  case round =>
    obtain ⟨k, hk, rfl, ho, hb⟩ := hrel
    have HO := hide ho; have HB := hide hb; clear ho hb
    by_cases hlt : k < xs.length
    · obtain ⟨b, off, rfl, hbw, hcell⟩ := HX.out k xs[k] (List.getElem?_eq_getElem hlt)
      have h1 : wr.cell? ⟨b, off + k, none⟩ = some (.int .i64 xs[k]) := (HB.out.cell hbw).trans hcell
      have h2 : wr.cell? ⟨w.heap.size, k, none⟩ = some (.int .i64 0) := HO.out.cellN (by rw [getElem?_mix (by simp) (by simpa using hlt)]; simp [hlt])
      have h3 := HO.out.freeN k
      go_wp2
      go_roundw
      case rel => exact ⟨k + 1, by omega, by go_num, by have := HO.out.setN k xs[k]; rw [set_mix (by simp) (List.getElem?_eq_getElem hlt)] at this; exact this, HB.out.setCell (Nat.le_refl _) _⟩
      case measure => simp [intOf]; omega
    · go_wp2
      go_ret
      have : k = xs.length := by omega
      subst this
      exact ⟨_, rfl, by have := HO.out; simpa using this, HB.out⟩
end Go.Proofs.YtgmgjhdckepmmaaGreat
end
section
namespace Go.Proofs.YtgmgjhdckepmmaaGreat
open Go.RowKit
set_option maxHeartbeats 400000 in
theorem c_eqInt64S (v1 v2 : Value) (xs ys : List Int) (w : World) (hr1 : RdI w v1 xs) (hr2 : RdI w v2 ys) : Calls Tryz.prog 69 #[v1, v2] w fun e w' => e = .returned (.bool (decide (xs = ys))) ∧ Dr w w' := by
  obtain ⟨A1, cap1, rfl, hl1, hc1, hx1⟩ := hr1.open_
  obtain ⟨A2, cap2, rfl, hl2, hc2, hx2⟩ := hr2.open_
  have HX1 := hide hx1; have HX2 := hide hx2; clear hx1 hx2 hr1 hr2
  by_cases hll : xs.length = ys.length
  · have hb : ((xs.length : Int) != (ys.length : Int)) = false := by simp [hll]
    have HL := hide hll; clear hll
    go_enter Tryz.func69, Tryz.ntmps69
    go_wp2
    go_loopw [5] (fun i wr => ∃ k : Nat, k ≤ xs.length ∧ i = .int .i64 k ∧ xs.take k = ys.take k ∧ Dr w wr) (fun i _ => xs.length - (intOf i).toNat)
    case atStart => exact ⟨0, Nat.zero_le _, rfl, rfl, Dr.refl _⟩
    case round =>
      obtain ⟨k, hk, rfl, hs, nr, rfl⟩ := hrel
      have HS := hide hs; clear hs
      by_cases hlt : k < xs.length
      · have hlt2 : k < ys.length := by have := HL.out; omega
        obtain ⟨b1, off1, rfl, hb1, hcell1⟩ := HX1.out k xs[k] (List.getElem?_eq_getElem hlt)
        obtain ⟨b2, off2, rfl, hb2, hcell2⟩ := HX2.out k ys[k] (List.getElem?_eq_getElem hlt2)
        by_cases he : xs[k] = ys[k]
        · have hd : (xs[k] != ys[k]) = false := by simp [he]
          have HE := hide he; clear he
          go_wp2
          go_quiet (fail)
          go_wp2
          go_roundw
          case rel => exact ⟨k + 1, by omega, by go_num, takes_succ HS.out (List.getElem?_eq_getElem hlt) (by rw [HE.out]; exact List.getElem?_eq_getElem hlt2), (by repeat (first | exact Dr.refl _ | exact ⟨_, rfl⟩ | refine Dr.drewN ?_ _ | refine Dr.drew ?_))⟩
          case measure => simp [intOf]; omega
        · have hd : (xs[k] != ys[k]) = true := by simp [he]
          have HE := hide he; clear he
          go_wp2
          go_quiet (fail)
          go_wp2
          go_ret
          exact ⟨by simp [ne_at (List.getElem?_eq_getElem hlt) (List.getElem?_eq_getElem hlt2) HE.out], (by repeat (first | exact Dr.refl _ | exact ⟨_, rfl⟩ | refine Dr.drewN ?_ _ | refine Dr.drew ?_))⟩
      · go_wp2
        go_ret
        exact ⟨by simp [eq_of_takes (k := k) (by omega) HL.out HS.out], (by repeat (first | exact Dr.refl _ | exact ⟨_, rfl⟩ | refine Dr.drewN ?_ _ | refine Dr.drew ?_))⟩
  · have hb : ((xs.length : Int) != (ys.length : Int)) = true := by simp; omega
    have hne : xs ≠ ys := fun e => hll (by rw [e])
    have HN := hide hne; clear hll hne
    go_enter Tryz.func69, Tryz.ntmps69
    go_wp2
    go_ret
    exact ⟨by simp [HN.out], Dr.refl _⟩
set_option maxHeartbeats 400000 in
theorem c_markInt64S (E : TypeId) (B : Nat) (v : Value) (xs : List Int) (m : Nat) (w : World) (ho : OwI E w B v xs) (hm : m + xs.length ≤ 4611686018427387904) :
    Calls Tryz.prog 76 #[v, .int .i64 m] w fun e w' => e = .returned (.int .i64 ((m + xs.length : Nat) : Int)) ∧ OwI E w' B v (marks m xs.length) ∧ w.grownBy w' v.ownBlock := by
  rcases Nat.eq_zero_or_pos xs.length with hz | hz
  · have hx : xs = [] := List.eq_nil_of_length_eq_zero hz
    subst hx
    obtain ⟨A, cap, rfl, hl, hc, _⟩ := ho.rd.open_
    have HO := hide ho; clear ho hz
    simp only [List.length_nil] at *
    go_enter Tryz.func76, Tryz.ntmps76
    go_wp2
    refine wp_loop_rounds 1 ?_
    rw [rounds_succ]
    go_wp2
    go_ret
    exact ⟨by simp, by simpa [marks] using HO.out, World.grownBy.refl _ _⟩
  · obtain ⟨g, cap, rfl, hl, hg, hgw⟩ := ho.form hz
    have HO := hide ho; clear ho
    go_enter Tryz.func76, Tryz.ntmps76
    go_wp2
    go_loopw [1, 5] (fun t i wr => ∃ k : Nat, k ≤ xs.length ∧ i = .int .i64 k ∧ t = .int .i64 ((m + k : Nat) : Int) ∧ OwI E wr B (.slice (some ⟨g, 0, none⟩) xs.length cap) ((marks m xs.length).take k ++ xs.drop k) ∧ w.grownBy wr (some g)) (fun _ i _ => xs.length - (intOf i).toNat)
    case atStart => exact ⟨0, Nat.zero_le _, rfl, rfl, by simpa using HO.out, World.grownBy.refl _ _⟩
    case round =>
      obtain ⟨k, hk, rfl, rfl, ho, hb⟩ := hrel
      have HO := hide ho; have HB := hide hb; clear ho hb
      by_cases hlt : k < xs.length
      · have h2 : wr.cell? ⟨g, k, none⟩ = some (.int .i64 xs[k]) := HO.out.cellN (by rw [getElem?_mix (length_marks _ _) hlt]; exact List.getElem?_eq_getElem hlt)
        have h3 := HO.out.freeN k
        go_wp2
        go_roundw
        case rel => exact ⟨k + 1, by omega, by go_num, by go_num, by have := HO.out.setN k ((m + k : Nat) : Int); rw [set_mix (length_marks _ _) (marks_at hlt)] at this; exact this, HB.out.trans (HO.out.grownN k _)⟩
        case measure => simp [intOf]; omega
      · go_wp2
        go_ret
        have : k = xs.length := by omega
        subst this
        exact ⟨rfl, by have := HO.out; rw [List.take_of_length_le (by simp [length_marks]), List.drop_length, List.append_nil] at this; unfold OwI at *; rw [length_marks] at *; exact this, HB.out⟩
/-- The number that 'held' returns. -/
def heldF (xs : List Int) (m : Nat) : Int := if xs = marks m xs.length then ((m + xs.length : Nat) : Int) else -1
set_option maxHeartbeats 400000 in
theorem c_heldInt64S (v : Value) (xs : List Int) (m : Nat) (w : World) (hr : RdI w v xs) (hm : m + xs.length ≤ 4611686018427387904) :
    Calls Tryz.prog 81 #[v, .int .i64 m] w fun e w' => e = .returned (.int .i64 (heldF xs m)) ∧ w = w' := by
  obtain ⟨A, cap, rfl, hl, hc, hx⟩ := hr.open_
  have HX := hide hx; clear hx hr
  go_enter Tryz.func81, Tryz.ntmps81
  go_wp2
  go_loop [1, 5] (fun t i => ∃ k : Nat, k ≤ xs.length ∧ i = .int .i64 k ∧ t = .int .i64 ((m + k : Nat) : Int) ∧ xs.take k = (marks m xs.length).take k) (fun _ i => xs.length - (intOf i).toNat)
  case atStart => exact ⟨0, Nat.zero_le _, rfl, rfl, rfl⟩
  case round =>
    obtain ⟨k, hk, rfl, rfl, hs⟩ := hrel
    have HS := hide hs; clear hs
    by_cases hlt : k < xs.length
    · obtain ⟨b, off, rfl, hb, hcell⟩ := HX.out k xs[k] (List.getElem?_eq_getElem hlt)
      by_cases he : xs[k] = ((m + k : Nat) : Int)
      · have hd : (xs[k] != ((m : Int) + (k : Int))) = false := by rw [he]; simp
        have HE := hide he; clear he
        go_wp2
        go_round
        case rel => exact ⟨k + 1, by omega, by go_num, by go_num, takes_succ HS.out (List.getElem?_eq_getElem hlt) (by rw [HE.out]; exact marks_at hlt)⟩
        case measure => simp [intOf]; omega
      · have hd : (xs[k] != ((m : Int) + (k : Int))) = true := by simp; omega
        have HE := hide he; clear he
        go_wp2
        go_ret
        exact ⟨by unfold heldF; rw [if_neg (ne_at (List.getElem?_eq_getElem hlt) (marks_at hlt) HE.out)]; rfl, rfl⟩
    · go_wp2
      go_ret
      have hk2 : k = xs.length := by omega
      have := eq_of_takes hk2 (length_marks _ _).symm HS.out
      exact ⟨by unfold heldF; rw [if_pos this]; simp; omega, rfl⟩
theorem c_eqI (v1 v2 : Value) (xs : List Int) (w : World) (hr1 : RdI w v1 xs) (hr2 : RdI w v2 xs) : Calls Tryz.prog 69 #[v1, v2] w fun e w' => e = .returned (.bool true) ∧ Dr w w' :=
  (c_eqInt64S v1 v2 xs xs w hr1 hr2).mono fun e w' ⟨h1, h2⟩ => ⟨by rw [h1]; simp, h2⟩
theorem c_heldI (v : Value) (n m : Nat) (w : World) (hr : RdI w v (marks m n)) (hm : m + n ≤ 4611686018427387904) :
    Calls Tryz.prog 81 #[v, .int .i64 m] w fun e w' => e = .returned (.int .i64 ((m + n : Nat) : Int)) ∧ w = w' :=
  (c_heldInt64S v (marks m n) m w hr (by rw [length_marks]; exact hm)).mono fun e w' ⟨h1, h2⟩ => ⟨by rw [h1, heldF, length_marks, if_pos rfl], h2⟩
end Go.Proofs.YtgmgjhdckepmmaaGreat
end
