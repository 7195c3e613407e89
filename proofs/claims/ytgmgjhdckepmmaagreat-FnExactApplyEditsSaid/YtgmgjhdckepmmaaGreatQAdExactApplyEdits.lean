/- Laws for data that is marked cell by cell. No program is named here. Growing a slice of data of the call's own, one element at a time. No program is named here. One element of a slice of the call's own turned. No program is named here. copy between slices whose elements take several cells. No program is named here. -/
import Derived.Test.YtgmgjhdckepmmaaGreatQAcExactApplyEdits
import Derived.Deep.RegionHeldLaw
import Derived.Laws.CopyOwn
import Derived.Lib.Overlaps
import Derived.Lib.AppendZeros
set_option linter.unusedVariables false
set_option linter.unusedSimpArgs false
section
namespace Go.Proofs.YtgmgjhdckepmmaaGreat
open Go.RowKit
def cntL {α : Type} (c : α → Nat) : List α → Nat
  | [] => 0
  | x :: r => c x + cntL c r
def mkL {α : Type} (m : α → Nat → α) (c : α → Nat) : List α → Nat → List α
  | [], _ => []
  | x :: r, k => m x k :: mkL m c r (k + c x)
section
variable {α : Type} {m : α → Nat → α} {c : α → Nat}
theorem length_mkL : ∀ (xs : List α) (k : Nat), (mkL m c xs k).length = xs.length
  | [], _ => rfl
  | x :: r, k => by simp [mkL, length_mkL r]
theorem cntL_snoc : ∀ (xs : List α) (x : α), cntL c (xs ++ [x]) = cntL c xs + c x
  | [], x => by simp [cntL]
  | y :: r, x => by simp only [List.cons_append, cntL, cntL_snoc r]; omega
theorem mkL_snoc : ∀ (xs : List α) (x : α) (k : Nat), mkL m c (xs ++ [x]) k = mkL m c xs k ++ [m x (k + cntL c xs)]
  | [], x, k => by simp [mkL, cntL]
  | y :: r, x, k => by simp only [List.cons_append, mkL, cntL, mkL_snoc r]; rw [Nat.add_assoc]
theorem cntL_take {xs : List α} {i : Nat} {x : α} (h : xs[i]? = some x) : cntL c (xs.take (i + 1)) = cntL c (xs.take i) + c x := by rw [take_snoc_of h, cntL_snoc]
theorem mkL_take {xs : List α} {i k : Nat} {x : α} (h : xs[i]? = some x) : mkL m c (xs.take (i + 1)) k = mkL m c (xs.take i) k ++ [m x (k + cntL c (xs.take i))] := by rw [take_snoc_of h, mkL_snoc]
theorem cntL_le : ∀ (xs : List α) (i : Nat), cntL c (xs.take i) ≤ cntL c xs
  | [], i => by simp [cntL]
  | x :: r, 0 => by simp [cntL]
  | x :: r, i + 1 => by simp only [List.take_succ_cons, cntL]; have := cntL_le r i; omega
theorem mkL_at : ∀ {xs : List α} {i k : Nat} {x : α}, xs[i]? = some x → (mkL m c xs k)[i]? = some (m x (k + cntL c (xs.take i)))
  | [], _, _, _, h => by simp at h
  | y :: r, 0, k, x, h => by simp at h; subst h; simp [mkL, cntL]
  | y :: r, i + 1, k, x, h => by
    have := mkL_at (xs := r) (i := i) (k := k + c y) (x := x) (by simpa using h)
    simp only [mkL, List.getElem?_cons_succ, List.take_succ_cons, cntL]
    rw [this, Nat.add_assoc]
end
section
variable {w w' a b : World} {F G : List Nat}
theorem Trn.refl (F : List Nat) (w : World) : Trn F w w := ⟨rfl, rfl, rfl, Nat.le_refl _, fun _ _ _ => rfl⟩
theorem Trn.trans (h : Trn F w a) (k : Trn F a b) : Trn F w b :=
  ⟨k.os.trans h.os, k.tape.trans h.tape, k.output.trans h.output, Nat.le_trans h.size k.size, fun x hx hn => (k.block x (Nat.lt_of_lt_of_le hx h.size) hn).trans (h.block x hx hn)⟩
theorem Trn.mono (h : Trn F w w') (hs : ∀ b ∈ F, b ∈ G) : Trn G w w' := ⟨h.os, h.tape, h.output, h.size, fun x hx hn => h.block x hx (fun e => hn (hs x e))⟩
theorem Trn.of_below (h : Below w.heap.size w w') : Trn F w w' := ⟨h.os, h.tape, h.output, h.size, fun x hx _ => h.block x hx⟩
theorem Trn.set_ {g : Nat} (hg : g ∈ F) (o : Nat) (u : Value) : Trn F w (w.setCell ⟨g, o, none⟩ u) :=
  ⟨rfl, rfl, rfl, by simp [World.setCell], fun x _ hn => Below.heap_setCell w _ u x (fun e => hn (by rw [show x = g from e]; exact hg))⟩
theorem Trn.alloc (o : Obj) : Trn F w (w.alloc o) := Trn.of_below ((Below.refl _ _).alloc (Nat.le_refl _) o)
theorem Trn.of_grown {v : Value} (h : w.grownBy w' v.ownBlock) : Trn v.ownBlock.toList w w' :=
  ⟨h.os, h.tape, h.output, h.size, fun x hx hn => h.block x hx (fun e => hn (by rw [← e]; simp))⟩
theorem Trn.below {B : Nat} {w0 : World} (hb : Below B w0 w) (h : Trn F w w') (hF : ∀ b ∈ F, B ≤ b) (hB : B ≤ w.heap.size) : Below B w0 w' :=
  hb.trans ⟨h.os, h.tape, h.output, h.size, fun k hk => h.block k (by omega) (fun e => by have := hF k e; omega)⟩
theorem T.ow_trn {x : T} {cs : List Value} (h : T.ow w x F cs) (k : Trn G w w') (hd : ∀ b ∈ F, b ∉ G) : T.ow w' x F cs :=
  T.ow_keep x F cs (fun b hb => k.block b (T.ow_lt x F cs h b hb) (hd b hb)) h
theorem T.ows_trn {xs : List T} {cs : List Value} (h : T.ows w xs F cs) (k : Trn G w w') (hd : ∀ b ∈ F, b ∉ G) : T.ows w' xs F cs :=
  T.ows_keep xs F cs (fun b hb => k.block b (T.ows_lt xs F cs h b hb) (hd b hb)) h
theorem own_trn {B E sz n g cap : Nat} {es : List Value} (h : w.ownsRow B E sz (.slice (some ⟨g, 0, none⟩) n cap) n es) (k : Trn G w w') (hd : g ∉ G) : w'.ownsRow B E sz (.slice (some ⟨g, 0, none⟩) n cap) n es :=
  ownsRow_keep (fun b hb => by
    have e : g = b := by simpa [Value.ownBlock] using hb
    subst e
    exact k.block _ (h.lt _ rfl).2 hd) h
theorem Bk.trn {g : Nat} {t : TypeId} {cs : Array Value} (h : Bk w g t cs) (k : Trn G w w') (hd : g ∉ G) : Bk w' g t cs := (k.block g h.lt hd).trans h
end
theorem nodup_fst {A B : List Nat} (h : (A ++ B).Nodup) : A.Nodup := (List.nodup_append.1 h).1
theorem nodup_snd {A B : List Nat} (h : (A ++ B).Nodup) : B.Nodup := (List.nodup_append.1 h).2.1
theorem nodup_dj {A B : List Nat} (h : (A ++ B).Nodup) : ∀ b ∈ A, b ∉ B := fun b h1 h2 => (List.nodup_append.1 h).2.2 b h1 b h2 rfl
theorem nodup_dj' {A B : List Nat} (h : (A ++ B).Nodup) : ∀ b ∈ B, b ∉ A := fun b h1 h2 => (List.nodup_append.1 h).2.2 b h2 b h1 rfl
theorem own_set1 {w : World} {B E sz n g cap j : Nat} {c1 cx c2 : List Value} {u : Value} (h : w.ownsRow B E sz (.slice (some ⟨g, 0, none⟩) n cap) n (c1 ++ (cx ++ c2))) (hj : j < cx.length) :
    (w.setCell ⟨g, c1.length + j, none⟩ u).ownsRow B E sz (.slice (some ⟨g, 0, none⟩) n cap) n (c1 ++ (cx.set j u ++ c2)) := by
  have := (World.ownsRow.stored h (c1.length + j) u).1
  rw [List.set_append_right _ _ (by omega), Nat.add_sub_cancel_left, List.set_append_left _ _ hj] at this
  exact this
/-- A slice of the call's own, open at one element. -/
structure Mid (w : World) (E : TypeId) (sz n g cap : Nat) (pre : List T) (x : T) (post : List T) (G1 Fx G2 : List Nat) (c1 cx c2 : List Value) : Prop where
  own : w.ownsRow 0 E sz (.slice (some ⟨g, 0, none⟩) n cap) n (c1 ++ (cx ++ c2))
  pr : T.ows w pre G1 c1
  el : T.ow w x Fx cx
  po : T.ows w post G2 c2
  nd : (g :: (G1 ++ (Fx ++ G2))).Nodup
  wd : ∀ y ∈ pre ++ x :: post, T.wide y = sz
  ln : n = (pre ++ x :: post).length
theorem T.mid {w : World} {E : TypeId} {sz : Nat} {pre : List T} {x : T} {post : List T} {F : List Nat} {v : Value} (h : T.ow w (.sl E sz (pre ++ x :: post)) F [v]) (hn : F.Nodup) :
    ∃ n g cap G1 Fx G2 c1 cx c2, v = .slice (some ⟨g, 0, none⟩) n cap ∧ F = g :: (G1 ++ (Fx ++ G2)) ∧ Mid w E sz n g cap pre x post G1 Fx G2 c1 cx c2 := by
  simp only [T.ow] at h
  obtain ⟨v', es, G, hv, rfl, hw, ho, hs⟩ := h
  obtain rfl : v = v' := by simpa using hv
  obtain ⟨G1, F2, c1, c3, rfl, rfl, h1, h2⟩ := (T.ows_app _ _ _ _).1 hs
  simp only [T.ows] at h2
  obtain ⟨Fx, G2, cx, c2, rfl, rfl, h3, h4⟩ := h2
  rcases ho.2 with ⟨_, h0⟩ | ⟨g, cap, cur, hv2, _⟩
  · simp at h0
  · subst hv2
    exact ⟨_, g, cap, G1, Fx, G2, c1, cx, c2, rfl, by simp [Value.ownBlock], ho, h1, h3, h4, by simpa [Value.ownBlock] using hn, hw, rfl⟩
theorem Mid.c1 {w : World} {E : TypeId} {sz n g cap : Nat} {pre : List T} {x : T} {post : List T} {G1 Fx G2 : List Nat} {c1 cx c2 : List Value} (h : Mid w E sz n g cap pre x post G1 Fx G2 c1 cx c2) : c1.length = pre.length * sz := by
  rw [T.ows_len h.pr, T.wides_mul pre (fun y hy => h.wd y (by simp [hy]))]
theorem Mid.gx {w : World} {E : TypeId} {sz n g cap : Nat} {pre : List T} {x : T} {post : List T} {G1 Fx G2 : List Nat} {c1 cx c2 : List Value} (h : Mid w E sz n g cap pre x post G1 Fx G2 c1 cx c2) : g ∉ Fx := fun hm => by
  have := (List.nodup_cons.1 h.nd).1
  exact this (by simp [hm])
theorem Mid.fx {w : World} {E : TypeId} {sz n g cap : Nat} {pre : List T} {x : T} {post : List T} {G1 Fx G2 : List Nat} {c1 cx c2 : List Value} (h : Mid w E sz n g cap pre x post G1 Fx G2 c1 cx c2) : Fx.Nodup :=
  nodup_fst (nodup_snd (List.nodup_cons.1 h.nd).2)
/-- The element has turned: the slice is closed again. -/
theorem Mid.close {w w' : World} {E : TypeId} {sz n g cap : Nat} {pre : List T} {x x' : T} {post : List T} {G1 Fx G2 : List Nat} {c1 cx cx' c2 : List Value} (h : Mid w E sz n g cap pre x post G1 Fx G2 c1 cx c2)
    (k : Trn (g :: Fx) w w') (ho : w'.ownsRow 0 E sz (.slice (some ⟨g, 0, none⟩) n cap) n (c1 ++ (cx' ++ c2))) (he : T.ow w' x' Fx cx') (hw : T.wide x' = sz) :
    T.ow w' (.sl E sz (pre ++ x' :: post)) (g :: (G1 ++ (Fx ++ G2))) [.slice (some ⟨g, 0, none⟩) n cap] := by
  have hg := (List.nodup_cons.1 h.nd).1
  have h2 := (List.nodup_cons.1 h.nd).2
  have d1 : ∀ b ∈ G1, b ∉ g :: Fx := fun b hb hm => by
    rcases List.mem_cons.1 hm with rfl | hm
    · exact hg (by simp [hb])
    · exact nodup_dj h2 b hb (by simp [hm])
  have d2 : ∀ b ∈ G2, b ∉ g :: Fx := fun b hb hm => by
    rcases List.mem_cons.1 hm with rfl | hm
    · exact hg (by simp [hb])
    · exact nodup_dj' (nodup_snd h2) b hb hm
  simp only [T.ow]
  refine ⟨_, c1 ++ (cx' ++ c2), G1 ++ (Fx ++ G2), rfl, by simp [Value.ownBlock], ?_, ?_, ?_⟩
  · intro y hy
    rcases List.mem_append.1 hy with hy | hy
    · exact h.wd y (by simp [hy])
    · rcases List.mem_cons.1 hy with rfl | hy
      · exact hw
      · exact h.wd y (by simp [hy])
  · have : (pre ++ x' :: post).length = n := by rw [h.ln]; simp
    rw [this]; exact ho
  · refine (T.ows_app _ _ _ _).2 ⟨G1, Fx ++ G2, c1, cx' ++ c2, rfl, rfl, T.ows_trn h.pr k d1, ?_⟩
    simp only [T.ows]
    exact ⟨Fx, G2, cx', c2, rfl, rfl, he, T.ows_trn h.po k d2⟩
theorem T.mid_empty {w : World} {E : TypeId} {sz : Nat} {F : List Nat} {v : Value} (h : T.ow w (.sl E sz []) F [v]) : ∃ A c, v = .slice A 0 c := by
  obtain ⟨A, cap, rfl, _⟩ := T.rd_open (T.ow_rd _ _ _ h)
  exact ⟨A, cap, rfl⟩
theorem T.ow_form {w : World} {E : TypeId} {sz : Nat} {xs : List T} {F : List Nat} {v : Value} (h : T.ow w (.sl E sz xs) F [v]) (hn : 0 < xs.length) : ∃ g cap, v = .slice (some ⟨g, 0, none⟩) xs.length cap ∧ xs.length ≤ cap ∧ cap ≤ 9223372036854775807 := by
  simp only [T.ow] at h
  obtain ⟨v', es, G, hv, _, _, ho, _⟩ := h
  obtain rfl : v = v' := by simpa using hv
  rcases ho.2 with ⟨_, h0⟩ | ⟨g, cap, cur, hv2, _, _, h1, h2, _⟩
  · omega
  · exact ⟨g, cap, hv2, h1, by unfold maxLen at h2; omega⟩
theorem own_st {w : World} {B E sz n g cap p : Nat} (j : Nat) {c1 cx c2 : List Value} {u : Value} (h : w.ownsRow B E sz (.slice (some ⟨g, 0, none⟩) n cap) n (c1 ++ (cx ++ c2))) (hc : c1.length = p) (hj : j < cx.length) :
    (w.setCell ⟨g, p + j, none⟩ u).ownsRow B E sz (.slice (some ⟨g, 0, none⟩) n cap) n (c1 ++ (cx.set j u ++ c2)) := by
  subst hc; exact own_set1 h hj
theorem own_at {w : World} {B E sz n g cap p : Nat} (j : Nat) {c1 zs c2 : List Value} (h : w.ownsRow B E sz (.slice (some ⟨g, 0, none⟩) n cap) n (c1 ++ (zs ++ c2))) (hc : c1.length = p) {u : Value} (hj : zs[j]? = some u) : w.cell? ⟨g, p + j, none⟩ = some u := by
  subst hc; exact own_cell h hj
end Go.Proofs.YtgmgjhdckepmmaaGreat
end
section
namespace Go.Proofs.YtgmgjhdckepmmaaGreat
open Go.RowKit
/-- Data in blocks of its own, from B on. -/
structure Own (B : Nat) (w : World) (x : T) (F : List Nat) (v : Value) : Prop where
  ow : T.ow w x F [v]
  nodup : F.Nodup
  lo : ∀ b ∈ F, B ≤ b
mutual
theorem T.rd_cell {w : World} : ∀ (x : T) (cs : List Value), T.rd w x cs → ∀ u ∈ cs, u.oneCell' = true
  | .num _, _, h => by simp only [T.rd] at h; subst h; simp [Value.oneCell']
  | .str _, _, h => by simp only [T.rd] at h; subst h; simp [Value.oneCell']
  | .sl _ _ _, _, h => by
    simp only [T.rd] at h
    obtain ⟨v, es, rfl, _, hr, _⟩ := h
    obtain ⟨_, A, cap, rfl, _⟩ := hr
    simp [Value.oneCell']
  | .st fs, cs, h => by simp only [T.rd] at h; exact T.rds_cell fs cs h
theorem T.rds_cell {w : World} : ∀ (xs : List T) (cs : List Value), T.rds w xs cs → ∀ u ∈ cs, u.oneCell' = true
  | [], _, h => by simp only [T.rds] at h; subst h; simp
  | x :: xs, _, h => by
    simp only [T.rds] at h
    obtain ⟨c1, c2, rfl, h1, h2⟩ := h
    intro u hu
    rcases List.mem_append.1 hu with hu | hu
    · exact T.rd_cell x c1 h1 u hu
    · exact T.rds_cell xs c2 h2 u hu
end
theorem Own.lt {B : Nat} {w : World} {x : T} {F : List Nat} {v : Value} (h : Own B w x F v) : ∀ b ∈ F, b < w.heap.size := T.ow_lt _ _ _ h.ow
theorem Own.all {B : Nat} {w w' : World} {x : T} {F : List Nat} {v : Value} (h : Own B w x F v) (hb : Below w.heap.size w w') : Own B w' x F v := ⟨T.ow_all h.ow hb, h.nodup, h.lo⟩
theorem Own.trn {B : Nat} {w w' : World} {x : T} {F G : List Nat} {v : Value} (h : Own B w x F v) (k : Trn G w w') (hd : ∀ b ∈ F, b ∉ G) : Own B w' x F v := ⟨T.ow_trn h.ow k hd, h.nodup, h.lo⟩
theorem Own.more {B B' : Nat} {w : World} {x : T} {F : List Nat} {v : Value} (h : Own B w x F v) (hb : B' ≤ B) : Own B' w x F v := ⟨h.ow, h.nodup, fun b m => Nat.le_trans hb (h.lo b m)⟩
theorem Own.nil (B : Nat) (w : World) (E : TypeId) (sz : Nat) : Own B w (.sl E sz []) [] (.slice none 0 0) := by
  refine ⟨?_, List.nodup_nil, by simp⟩
  simp only [T.ow]
  exact ⟨_, [], [], rfl, by simp [Value.ownBlock], by simp, World.ownsRow_nil w 0 E sz, by simp [T.ows]⟩
theorem Own.app {B : Nat} {w : World} {E : TypeId} {sz : Nat} {xs : List T} {x : T} {F Fx : List Nat} {v : Value} {news : List Value} (h : Own B w (.sl E sz xs) F v) (hx : T.ow w x Fx news) (nx : Fx.Nodup) (lx : ∀ b ∈ Fx, B ≤ b)
    (hd : ∀ b ∈ F, b ∉ Fx) (hw : T.wide x = sz) (hB : B ≤ w.heap.size) :
    ∃ es, w.ownsRow 0 E sz v xs.length es ∧ ∀ v' w', w'.ownsRow 0 E sz v' (xs.length + 1) (es ++ news) → w.grownBy w' v.ownBlock → (∀ k, v'.ownBlock = some k → v.ownBlock = some k ∨ w.heap.size ≤ k) →
      ∃ F', Own B w' (.sl E sz (xs ++ [x])) F' v' ∧ ∀ b ∈ F', b ∈ F ∨ b ∈ Fx ∨ w.heap.size ≤ b := by
  obtain ⟨ho, hn, hlo⟩ := h
  simp only [T.ow] at ho
  obtain ⟨v0, es, G, e, rfl, hwd, hrow, hows⟩ := ho
  injection e with e _
  subst e
  refine ⟨es, hrow, fun v' w' hrow' hg hv => ⟨v'.ownBlock.toList ++ (G ++ Fx), ⟨?_, ?_, ?_⟩, ?_⟩⟩
  · simp only [T.ow]
    refine ⟨v', es ++ news, G ++ Fx, rfl, rfl, ?_, by simpa using hrow', ?_⟩
    · intro y hy
      rcases List.mem_append.1 hy with hy | hy
      · exact hwd y hy
      · simp at hy; subst hy; exact hw
    · refine T.ows_snoc (T.ows_keep _ _ _ (fun b hb => ?_) hows) (T.ow_keep _ _ _ (fun b hb => ?_) hx)
      · exact hg.block b (T.ows_lt _ _ _ hows b hb) (fun e => nodup_dj hn b (by rw [← e]; simp) hb)
      · exact hg.block b (T.ow_lt _ _ _ hx b hb) (fun e => hd b (List.mem_append.2 (.inl (by rw [← e]; simp))) hb)
  · rw [List.nodup_append]
    refine ⟨by cases v'.ownBlock <;> simp, ?_, ?_⟩
    · rw [List.nodup_append]
      exact ⟨nodup_snd hn, nx, fun a ha b hb e => hd a (List.mem_append.2 (.inr ha)) (e ▸ hb)⟩
    · intro a ha b hb e
      subst e
      have ha : v'.ownBlock = some a := by simpa using ha
      rcases hv a ha with k | k
      · rcases List.mem_append.1 hb with hb | hb
        · exact nodup_dj hn a (by rw [k]; simp) hb
        · exact hd a (List.mem_append.2 (.inl (by rw [k]; simp))) hb
      · rcases List.mem_append.1 hb with hb | hb
        · have := T.ows_lt _ _ _ hows a hb; omega
        · have := T.ow_lt _ _ _ hx a hb; omega
  · intro b hb
    rcases List.mem_append.1 hb with hb | hb
    · have hb : v'.ownBlock = some b := by simpa using hb
      rcases hv b hb with k | k
      · exact hlo b (List.mem_append.2 (.inl (by rw [k]; simp)))
      · omega
    · rcases List.mem_append.1 hb with hb | hb
      · exact hlo b (List.mem_append.2 (.inr hb))
      · exact lx b hb
  · intro b hb
    rcases List.mem_append.1 hb with hb | hb
    · have hb : v'.ownBlock = some b := by simpa using hb
      rcases hv b hb with k | k
      · exact .inl (List.mem_append.2 (.inl (by rw [k]; simp)))
      · exact .inr (.inr k)
    · rcases List.mem_append.1 hb with hb | hb
      · exact .inl (List.mem_append.2 (.inr hb))
      · exact .inr (.inl hb)
theorem Own.row {B : Nat} {w : World} {E : TypeId} {sz : Nat} {xs : List T} {F : List Nat} {v : Value} (h : Own B w (.sl E sz xs) F v) : ∀ k, v.ownBlock = some k → B ≤ k := by
  intro k hk
  obtain ⟨ho, hn, hlo⟩ := h
  simp only [T.ow] at ho
  obtain ⟨v0, es, G, e, rfl, _⟩ := ho
  injection e with e _
  subst e
  exact hlo k (List.mem_append.2 (.inl (by rw [hk]; simp)))
theorem Own.mem {B : Nat} {w : World} {E : TypeId} {sz : Nat} {xs : List T} {F : List Nat} {v : Value} (h : Own B w (.sl E sz xs) F v) : ∀ k, v.ownBlock = some k → k ∈ F := by
  intro k hk
  obtain ⟨ho, hn, hlo⟩ := h
  simp only [T.ow] at ho
  obtain ⟨v0, es, G, e, rfl, _⟩ := ho
  injection e with e _
  subst e
  exact List.mem_append.2 (.inl (by rw [hk]; simp))
theorem Own.born {B : Nat} {w : World} {E : TypeId} {sz : Nat} {v : Value} (h : w.ownsRow B E sz v 0 []) : Own B w (.sl E sz []) v.ownBlock.toList v := by
  refine ⟨?_, by cases v.ownBlock <;> simp, fun b hb => (h.lt b (by simpa using hb)).1⟩
  simp only [T.ow]
  refine ⟨v, [], [], rfl, by simp, by simp, ?_, by simp [T.ows]⟩
  exact own_more h (Nat.zero_le _)
theorem Nw.own {w w' : World} {x : T} {F : List Nat} {v : Value} (h : Nv w w' x F v) : Own w.heap.size w' x F v := ⟨h.ow, h.nodup, h.lo⟩
theorem Own.below {B : Nat} {w w' w0 : World} {E : TypeId} {sz : Nat} {xs : List T} {F : List Nat} {v : Value} (h : Own B w (.sl E sz xs) F v) (hb : Below B w0 w) (hB : B ≤ w.heap.size) (hg : w.grownBy w' v.ownBlock) : Below B w0 w' :=
  hb.grown hg hB (fun j hj => h.row j hj)
theorem Bk.rd1 {w : World} {g : Nat} {t : TypeId} {ys : List Value} (h : Bk w g t ys.toArray) : Rd w (.slice (some ⟨g, 0, none⟩) 1 1) ys.length 1 ys :=
  ⟨by simp, _, 1, rfl, Nat.le_refl _, by decide, fun _ => ⟨g, 0, rfl, h.lt, fun j u hj => by rw [Nat.zero_add, h.cell j]; simpa using hj⟩⟩
theorem T.ow_st {w : World} {fs : List T} {F : List Nat} {cs : List Value} (h : T.ows w fs F cs) : T.ow w (.st fs) F cs := by simp only [T.ow]; exact h
theorem nodup_app {A B : List Nat} (ha : A.Nodup) (hb : B.Nodup) (h : ∀ x ∈ A, x ∉ B) : (A ++ B).Nodup := by
  rw [List.nodup_append]
  exact ⟨ha, hb, fun a h1 b h2 e => h a h1 (e ▸ h2)⟩
section
variable {P : Program}
/-- append of one element, whose cells the call has just laid in a block. -/
theorem app1_T {w : World} {ops : Array Oper} {rest : List Oper} {o : Oper} {a : Act} {Q : Exit → Act → World → Prop} {news : Array Value} (hgd : o.guard = none) (s y : Operand) (t : TypeId)
    (ho : o.op = .call { callee := .builtin .append, args := #[s, y], argTypes := #[t, t] }) (B : Nat) (e : TypeId) (z : Value) (size bytes : Nat) (ht : P.underlying t = some (.slice e))
    (hinfo : (P.info? e).map (fun i => (i.zero, i.size, i.bytes)) = some (some z, size, bytes)) (hzs : z.cells.size = size) (hsz : 0 < size)
    {v : Value} {xs : List T} {x : T} {F Fx : List Nat} (hs : a.eval s = v) (hown : Own B w (.sl e size xs) F v) (hx : T.ow w x Fx news.toList) (nx : Fx.Nodup) (lx : ∀ b ∈ Fx, B ≤ b) (hd : ∀ b ∈ F, b ∉ Fx) (hw : T.wide x = size)
    (hy : a.eval y = .slice (some ⟨w.heap.size, 0, none⟩) 1 1) (hbytes : (xs.length + 1) * bytes ≤ 140737488355328) (h63 : xs.length + 1 ≤ 9223372036854775807) (hB : B ≤ w.heap.size)
    (h : ∀ v' w' F', Own B w' (.sl e size (xs ++ [x])) F' v' → w.grownBy w' v.ownBlock → (∀ b ∈ F', b ∈ F ∨ b ∈ Fx ∨ w.heap.size ≤ b) → wpList P ops Q rest (a.put o.dst v') w') :
    wpList P ops Q (o :: rest) a (w.alloc (.cells news e)) := by
  obtain ⟨es, hrow, hk⟩ := hown.app hx nx lx hd hw hB
  refine app_one hgd s y t ho 0 e z size bytes ht hinfo hzs hsz v xs.length es hs hrow hy ?_ ?_ hbytes h63 (Nat.zero_le _) ?_
  · have := T.rd_len x _ (T.ow_rd _ _ _ hx)
    rw [hw] at this
    simpa using this
  · exact T.rd_cell x _ (T.ow_rd _ _ _ hx)
  · intro v' w' h1 h2 h3
    obtain ⟨F', k1, k2⟩ := hk v' w' h1 h2 h3
    exact h v' w' F' k1 h2 k2
end
/-- append of all elements of a slice that reads, at a step of a region that draws its order. -/
theorem step_manyT {P : Program} {w : World} {ops : Array Oper} {o : Oper} {a : Act} {K : Act → World → Prop} {Q : Exit → Act → World → Prop} {E : Prop} (hgd : o.guard = none) (s x : Operand) (t : TypeId)
    (ho : o.op = .call { callee := .builtin .append, args := #[s, x], argTypes := #[t, t] })
    (base : Nat) (e : TypeId) (z : Value) (size bytes : Nat) (ht : P.underlying t = some (.slice e)) (hinfo : (P.info? e).map (fun i => (i.zero, i.size, i.bytes)) = some (some z, size, bytes))
    (hzs : z.cells.size = size) (hsz : 0 < size)
    (v : Value) (n : Nat) (xs : List Value) (hs : a.eval s = v) (hown : w.ownsRow base e size v n xs)
    (y : Value) (m : Nat) (ys : List Value) (hx : a.eval x = y) (hr : Rd w y size m ys) (h1 : ∀ u ∈ ys, u.oneCell' = true)
    (hbytes : (n + m) * bytes ≤ 140737488355328) (h63 : n + m ≤ maxLen) (hbase : base ≤ w.heap.size)
    (h : ∀ v' w', w'.ownsRow base e size v' (n + m) (xs ++ ys) → w.grownBy w' v.ownBlock → (∀ k, v'.ownBlock = some k → v.ownBlock = some k ∨ w.heap.size ≤ k) → K (a.put o.dst v') w') :
    if Region.wanted o (yielded ops a.tmps) = true then Oper.wp P o a w K Q else E := by
  have hw : Region.wanted o (yielded ops a.tmps) = true := by simp [Region.wanted, hgd]
  rw [if_pos hw]
  obtain ⟨i0, hi, hz0, hz1, hz2⟩ := info_parts hinfo
  obtain ⟨hl, A, cap, rfl, hc1, hc2, hcell⟩ := hr
  rcases Nat.eq_zero_or_pos m with hm | hm
  · subst hm
    have hn : ys = [] := List.eq_nil_of_length_eq_zero (by simpa using hl)
    subst hn
    have hrun : (Builtin.append_ #[t, t] o.type #[v, .slice A 0 cap]).run P w = .ok v w := by
      rcases hown.2 with ⟨rfl, rfl⟩ | ⟨g, cap', cur, rfl, _, _, hnc, _⟩
      · cases A <;> simp [Builtin.append_, run_underlying ht, sizeOf, typeInfo, hi, Builtin.lenOf, Builtin.firstCells, loadCells, loadCellsFrom]
      · cases A <;> simp [Builtin.append_, run_underlying ht, sizeOf, typeInfo, hi, Builtin.lenOf, Builtin.firstCells, hnc, storeCells, loadCells, loadCellsFrom]
    unfold Oper.wp execOp
    simp only [ho, resolve, invoke, builtin, Sem.run_bind, Sem.run_pure, Result.andThen_ok, List.map_toArray, List.map_cons, List.map_nil, hs, hx, hrun]
    exact h v w (by simpa using hown) (World.grownBy.refl _ _) fun k hk => .inl hk
  · obtain ⟨b, off, rfl, hb, hcc⟩ := hcell hm
    refine wp_append_lies w s x t ho base e i0 z size bytes ht hi hz0 hz1 hz2 hzs hsz v n xs hs hown ⟨b, off, none⟩ m cap ys hx hl ?_ h1 hm h63 hbytes hbase _ rfl ?_
    · intro j u hu
      rw [show (⟨b, off, none⟩ : Addr).add j = ⟨b, off + j, none⟩ by unfold Addr.add; split <;> simp_all]
      exact hcc j u hu
    · intro g cap' w' h2 h3 h4 _
      refine h _ w' h2 h3 fun k hk => ?_
      injection hk with hk
      subst hk
      rcases h4 with h4 | h4
      · exact .inl h4
      · exact .inr (by rw [h4]; exact Nat.le_refl _)
/-- append of one element at a step of a region that draws its order. -/
theorem step1_T {P : Program} {w : World} {ops : Array Oper} {o : Oper} {a : Act} {K : Act → World → Prop} {Q : Exit → Act → World → Prop} {X : Prop} (hgd : o.guard = none) (s y : Operand) (t : TypeId)
    (ho : o.op = .call { callee := .builtin .append, args := #[s, y], argTypes := #[t, t] }) (B : Nat) (e : TypeId) (z : Value) (size bytes : Nat) (ht : P.underlying t = some (.slice e))
    (hinfo : (P.info? e).map (fun i => (i.zero, i.size, i.bytes)) = some (some z, size, bytes)) (hzs : z.cells.size = size) (hsz : 0 < size)
    {v : Value} {xs : List T} {x : T} {F Fx : List Nat} {news : List Value} {g : Nat} (hs : a.eval s = v) (hown : Own B w (.sl e size xs) F v) (hy : a.eval y = .slice (some ⟨g, 0, none⟩) 1 1) (hk : Bk w g e news.toArray)
    (hx : T.ow w x Fx news) (nx : Fx.Nodup) (lx : ∀ b ∈ Fx, B ≤ b) (hd : ∀ b ∈ F, b ∉ Fx) (hw : T.wide x = size)
    (hbytes : (xs.length + 1) * bytes ≤ 140737488355328) (h63 : xs.length + 1 ≤ maxLen) (hB : B ≤ w.heap.size)
    (h : ∀ v' w' F', Own B w' (.sl e size (xs ++ [x])) F' v' → w.grownBy w' v.ownBlock → (∀ b ∈ F', b ∈ F ∨ b ∈ Fx ∨ w.heap.size ≤ b) → K (a.put o.dst v') w') :
    if Region.wanted o (yielded ops a.tmps) = true then Oper.wp P o a w K Q else X := by
  obtain ⟨es, hrow, hk2⟩ := hown.app hx nx lx hd hw hB
  have hl : news.length = size := by rw [← hw]; exact T.rd_len x _ (T.ow_rd _ _ _ hx)
  refine step_manyT hgd s y t ho 0 e z size bytes ht hinfo hzs hsz v xs.length es hs hrow _ 1 news hy (by rw [← hl]; exact hk.rd1) (T.rd_cell x _ (T.ow_rd _ _ _ hx)) hbytes h63 (Nat.zero_le _) ?_
  intro v' w' h1 h2 h3
  obtain ⟨F', k1, k2⟩ := hk2 v' w' h1 h2 h3
  exact h v' w' F' k1 h2 k2
end Go.Proofs.YtgmgjhdckepmmaaGreat
end
section
namespace Go.Proofs.YtgmgjhdckepmmaaGreat
open Go.RowKit
/-- The element is another, in other blocks: the slice is closed again. -/
theorem Mid.put {w w' : World} {E : TypeId} {sz n g cap : Nat} {pre : List T} {x x' : T} {post : List T} {G1 Fx G2 Fy : List Nat} {c1 cx cx' c2 : List Value} (h : Mid w E sz n g cap pre x post G1 Fx G2 c1 cx c2)
    (k : Trn [g] w w') (ho : w'.ownsRow 0 E sz (.slice (some ⟨g, 0, none⟩) n cap) n (c1 ++ (cx' ++ c2))) (he : T.ow w' x' Fy cx') (hw : T.wide x' = sz) :
    T.ow w' (.sl E sz (pre ++ x' :: post)) (g :: (G1 ++ (Fy ++ G2))) [.slice (some ⟨g, 0, none⟩) n cap] := by
  have hg := (List.nodup_cons.1 h.nd).1
  have d1 : ∀ b ∈ G1, b ∉ [g] := fun b hb hm => by
    rw [List.mem_singleton] at hm; subst hm; exact hg (by simp [hb])
  have d2 : ∀ b ∈ G2, b ∉ [g] := fun b hb hm => by
    rw [List.mem_singleton] at hm; subst hm; exact hg (by simp [hb])
  simp only [T.ow]
  refine ⟨_, c1 ++ (cx' ++ c2), G1 ++ (Fy ++ G2), rfl, by simp [Value.ownBlock], ?_, ?_, ?_⟩
  · intro y hy
    rcases List.mem_append.1 hy with hy | hy
    · exact h.wd y (by simp [hy])
    · rcases List.mem_cons.1 hy with rfl | hy
      · exact hw
      · exact h.wd y (by simp [hy])
  · have : (pre ++ x' :: post).length = n := by rw [h.ln]; simp
    rw [this]; exact ho
  · refine (T.ows_app _ _ _ _).2 ⟨G1, Fy ++ G2, c1, cx' ++ c2, rfl, rfl, T.ows_trn h.pr k d1, ?_⟩
    simp only [T.ows]
    exact ⟨Fy, G2, cx', c2, rfl, rfl, he, T.ows_trn h.po k d2⟩
theorem cut_set {α : Type} {l : List α} {k : Nat} {x : α} (h : l[k]? = some x) : ∃ pre post, l = pre ++ x :: post ∧ pre.length = k ∧ ∀ y, l.set k y = pre ++ y :: post := by
  obtain ⟨hk, he⟩ := List.getElem?_eq_some_iff.1 h
  refine ⟨l.take k, l.drop (k + 1), ?_, by rw [List.length_take]; omega, fun y => List.set_eq_take_append_cons_drop.trans (by rw [if_pos hk])⟩
  rw [← he, List.getElem_cons_drop hk, List.take_append_drop]
/-- An element of one cell is put into its place. -/
theorem Own.put1 {B : Nat} {w : World} {E : TypeId} {xs : List T} {F Fy : List Nat} {g n cap k : Nat} {x y : T} {u : Value} (h : Own B w (.sl E 1 xs) F (.slice (some ⟨g, 0, none⟩) n cap)) (hk : xs[k]? = some x) (hy : T.ow w y Fy [u]) (ny : Fy.Nodup) (ly : ∀ b ∈ Fy, B ≤ b)
    (hd : ∀ b ∈ F, b ∉ Fy) (hw : T.wide y = 1) : ∃ F', Own B (w.setCell ⟨g, k, none⟩ u) (.sl E 1 (xs.set k y)) F' (.slice (some ⟨g, 0, none⟩) n cap) ∧ ∀ b ∈ F', b ∈ F ∨ b ∈ Fy := by
  obtain ⟨pre, post, hx, hl, hs⟩ := cut_set hk
  obtain ⟨ho, hn, hlo⟩ := h
  rw [hx] at ho
  obtain ⟨n', g', cap', G1, Fx, G2, c1, cx, c2, e1, e2, M⟩ := T.mid ho hn
  injection e1 with e1 e3 e4
  injection e1 with e1
  injection e1 with e1
  subst e1 e3 e4 e2
  have hg : g ∉ Fy := hd g (by simp)
  have hc1 := M.c1
  rw [hl, Nat.mul_one] at hc1
  have hcx : cx.length = 1 := by rw [T.rd_len _ _ (T.ow_rd _ _ _ M.el)]; exact M.wd x (by simp)
  obtain ⟨c, rfl⟩ := len1 hcx
  have hrow := own_st 0 M.own hc1 (by simp) (u := u)
  have hput := M.put (x' := y) (Trn.set_ (F := [g]) (by simp) k u) (by simpa using hrow) (T.ow_far hy hg k u) hw
  refine ⟨_, ⟨by rw [hs]; exact hput, ?_, ?_⟩, ?_⟩
  · have nd := M.nd
    rw [List.nodup_cons] at nd ⊢
    have n2 := nd.2
    refine ⟨fun hm => ?_, nodup_app (nodup_fst n2) (nodup_app ny (nodup_snd (nodup_snd n2)) (fun b hb hm => hd b (by simp [hm]) hb)) (fun b hb hm => ?_)⟩
    · rcases List.mem_append.1 hm with hm | hm
      · exact nd.1 (by simp [hm])
      · rcases List.mem_append.1 hm with hm | hm
        · exact hg hm
        · exact nd.1 (by simp [hm])
    · rcases List.mem_append.1 hm with hm | hm
      · exact hd b (by simp [hb]) hm
      · exact nodup_dj n2 b hb (by simp [hm])
  · intro b hb
    rcases List.mem_cons.1 hb with rfl | hb
    · exact hlo _ (by simp)
    · rcases List.mem_append.1 hb with hb | hb
      · exact hlo _ (by simp [hb])
      · rcases List.mem_append.1 hb with hb | hb
        · exact ly _ hb
        · exact hlo _ (by simp [hb])
  · intro b hb
    rcases List.mem_cons.1 hb with rfl | hb
    · exact .inl (by simp)
    · rcases List.mem_append.1 hb with hb | hb
      · exact .inl (by simp [hb])
      · rcases List.mem_append.1 hb with hb | hb
        · exact .inr hb
        · exact .inl (by simp [hb])
/-- A number is put into its place. -/
theorem Own.puti {B : Nat} {w : World} {E : TypeId} {xs : List Int} {F : List Nat} {g n cap k : Nat} (y : Int) (h : Own B w (T.ints E xs) F (.slice (some ⟨g, 0, none⟩) n cap)) (hk : k < xs.length) :
    ∃ F', Own B (w.setCell ⟨g, k, none⟩ (.int .i64 y)) (T.ints E (xs.set k y)) F' (.slice (some ⟨g, 0, none⟩) n cap) ∧ ∀ b ∈ F', b ∈ F := by
  have h0 : (xs.map T.num)[k]? = some (.num xs[k]) := by rw [List.getElem?_map, List.getElem?_eq_getElem hk]; rfl
  obtain ⟨F', h1, h2⟩ := Own.put1 (y := .num y) (Fy := []) h h0 (show T.ow w (.num y) [] [.int .i64 y] by simp [T.ow]) List.nodup_nil (by simp) (by simp) rfl
  refine ⟨F', ?_, fun b hb => by rcases h2 b hb with h | h; exact h; cases h⟩
  have e : (xs.map T.num).set k (.num y) = (xs.set k y).map T.num := by rw [List.map_set]
  rw [e] at h1
  exact h1
/-- The second of an element's two numbers is put into its place. -/
theorem Own.put2 {B : Nat} {w : World} {E : TypeId} {xs : List T} {F : List Nat} {g n cap k : Nat} {a b : Int} (y : Int) (h : Own B w (.sl E 2 xs) F (.slice (some ⟨g, 0, none⟩) n cap)) (hk : xs[k]? = some (.st [.num a, .num b])) :
    Own B (w.setCell ⟨g, k * 2 + 1, none⟩ (.int .i64 y)) (.sl E 2 (xs.set k (.st [.num a, .num y]))) F (.slice (some ⟨g, 0, none⟩) n cap) := by
  obtain ⟨pre, post, hx, hl, hs⟩ := cut_set hk
  obtain ⟨ho, hn, hlo⟩ := h
  rw [hx] at ho
  obtain ⟨n', g', cap', G1, Fx, G2, c1, cx, c2, e1, e2, M⟩ := T.mid ho hn
  injection e1 with e1 e3 e4
  injection e1 with e1
  injection e1 with e1
  subst e1 e3 e4 e2
  have hc1 := M.c1
  rw [hl] at hc1
  have hel := M.el
  simp only [T.ow] at hel
  obtain ⟨rfl, rfl⟩ : Fx = [] ∧ cx = [.int .i64 a, .int .i64 b] := by
    simp only [T.ows_num, T.ows_nil] at hel
    obtain ⟨c3, rfl, c4, rfl, rfl, rfl⟩ := hel
    exact ⟨rfl, rfl⟩
  have hrow := own_st 1 M.own hc1 (by simp) (u := .int .i64 y)
  refine ⟨?_, hn, hlo⟩
  rw [hs]
  exact M.close (x' := .st [.num a, .num y]) (cx' := [.int .i64 a, .int .i64 y]) (Trn.set_ (by simp) _ _) (by simpa using hrow) (T.ow_st (T.c_on (T.c_on T.c_oe))) rfl
/-- An element, and what becomes of the slice where only the element's own blocks turn. -/
theorem Own.inner {B : Nat} {w : World} {E : TypeId} {sz : Nat} {xs : List T} {F : List Nat} {g n cap k : Nat} {x : T} (h : Own B w (.sl E sz xs) F (.slice (some ⟨g, 0, none⟩) n cap)) (hk : xs[k]? = some x) :
    ∃ Fx cx, T.ow w x Fx cx ∧ Fx.Nodup ∧ (∀ b ∈ Fx, b ∈ F) ∧ g ∉ Fx ∧ (∀ j u, cx[j]? = some u → w.cell? ⟨g, k * sz + j, none⟩ = some u) ∧
      ∀ w' x', Trn Fx w w' → T.ow w' x' Fx cx → T.wide x' = sz → Own B w' (.sl E sz (xs.set k x')) F (.slice (some ⟨g, 0, none⟩) n cap) := by
  obtain ⟨pre, post, hx, hl, hs⟩ := cut_set hk
  obtain ⟨ho, hn, hlo⟩ := h
  rw [hx] at ho
  obtain ⟨n', g', cap', G1, Fx, G2, c1, cx, c2, e1, e2, M⟩ := T.mid ho hn
  injection e1 with e1 e3 e4
  injection e1 with e1
  injection e1 with e1
  subst e1 e3 e4 e2
  have hc1 := M.c1
  rw [hl] at hc1
  refine ⟨Fx, cx, M.el, M.fx, fun b hb => by simp [hb], M.gx, fun j u hj => ?_, fun w' x' k' he hw => ⟨?_, hn, hlo⟩⟩
  · exact own_at j M.own hc1 hj
  · rw [hs]
    exact M.close (k'.mono (fun b hb => by simp [hb])) (own_trn M.own k' M.gx) he hw
end Go.Proofs.YtgmgjhdckepmmaaGreat
end
section
namespace Go.Proofs.YtgmgjhdckepmmaaGreat
open Go.RowKit
section
variable {P : Program}
theorem run_copy_rowK (w : World) (dT sT ty elem : TypeId) (size g o dLen dCap : Nat) (a : Addr) (sLen sCap : Nat) (cur : Array Value) (t : TypeId) (cs : List Value)
    (hu : P.underlying dT = some (.slice elem)) (hs : (P.info? elem).map (·.size) = some size)
    (hg : w.heap[g]? = some (.cells cur t (0, 0))) (hn : cs.length = Nat.min sLen dLen * size)
    (hsrc : ∀ j v, cs[j]? = some v → w.cell? (a.add j) = some v) (hfit : o + cs.length ≤ cur.size) (h1 : ∀ v ∈ cs, v.oneCell' = true) :
    (Builtin.copy_ #[dT, sT] ty #[.slice (some ⟨g, o, none⟩) dLen dCap, .slice (some a) sLen sCap]).run P w =
      .ok (goInt (Nat.min sLen dLen)) (w.setRow g (cur.toList.take o ++ cs ++ cur.toList.drop (o + cs.length)).toArray) := by
  have hl := run_loadCells_list (P := P) w a cs hsrc
  have hst := run_storeCells_at P g o t cs 0 cur w hg (by simpa using hfit) h1
  cases hq : P.info? elem with
  | none => simp [hq] at hs
  | some i =>
    have hi : i.size = size := by simpa [hq] using hs
    rw [hn] at hl
    simp [Builtin.copy_, run_underlying hu, Builtin.lenOf, Builtin.firstCells, sizeOf, typeInfo, hq, hi, hl, hst]
theorem wpList_copy_rowK {w : World} {ops : Array Oper} {rest : List Oper} {o : Oper} {a : Act} {Q : Exit → Act → World → Prop} (hgd : o.guard = none) (d s : Operand) (dT sT : TypeId)
    (ho : o.op = .call { callee := .builtin .copy, args := #[d, s], argTypes := #[dT, sT] }) (elem : TypeId) (size : Nat) (hu : P.underlying dT = some (.slice elem)) (hsz : (P.info? elem).map (·.size) = some size)
    (g off dLen dCap : Nat) (ad : Addr) (sLen sCap : Nat) (hd : a.eval d = .slice (some ⟨g, off, none⟩) dLen dCap) (hs : a.eval s = .slice (some ad) sLen sCap)
    (cur : Array Value) (t : TypeId) (hg : w.heap[g]? = some (.cells cur t (0, 0))) (cs : List Value) (hn : cs.length = Nat.min sLen dLen * size)
    (hsrc : ∀ j v, cs[j]? = some v → w.cell? (ad.add j) = some v) (hfit : off + cs.length ≤ cur.size) (h1 : ∀ v ∈ cs, v.oneCell' = true)
    (h : wpList P ops Q rest (a.put o.dst (goInt (Nat.min sLen dLen))) (w.setRow g (cur.toList.take off ++ cs ++ cur.toList.drop (off + cs.length)).toArray)) : wpList P ops Q (o :: rest) a w := by
  refine wpList_plain hgd fun K hK => ?_
  have hrun := run_copy_rowK (P := P) w dT sT o.type elem size g off dLen dCap ad sLen sCap cur t cs hu hsz hg hn hsrc hfit h1
  unfold Oper.wp
  simp [execOp, ho, resolve, invoke, builtin, hd, hs, hrun, Result.andThen]
  exact hK _ _ (by simpa using h)
/-- The same as one step of a region that draws its order. -/
theorem step_copy_rowK {w : World} {ops : Array Oper} {o : Oper} {a : Act} {K : Act → World → Prop} {Q : Exit → Act → World → Prop} {E : Prop} (hgd : o.guard = none) (d s : Operand) (dT sT : TypeId)
    (ho : o.op = .call { callee := .builtin .copy, args := #[d, s], argTypes := #[dT, sT] }) (elem : TypeId) (size : Nat) (hu : P.underlying dT = some (.slice elem)) (hsz : (P.info? elem).map (·.size) = some size)
    (g off dLen dCap : Nat) (ad : Addr) (sLen sCap : Nat) (hd : a.eval d = .slice (some ⟨g, off, none⟩) dLen dCap) (hs : a.eval s = .slice (some ad) sLen sCap)
    (cur : Array Value) (t : TypeId) (hg : w.heap[g]? = some (.cells cur t (0, 0))) (cs : List Value) (hn : cs.length = Nat.min sLen dLen * size)
    (hsrc : ∀ j v, cs[j]? = some v → w.cell? (ad.add j) = some v) (hfit : off + cs.length ≤ cur.size) (h1 : ∀ v ∈ cs, v.oneCell' = true)
    (h : K (a.put o.dst (goInt (Nat.min sLen dLen))) (w.setRow g (cur.toList.take off ++ cs ++ cur.toList.drop (off + cs.length)).toArray)) :
    if Region.wanted o (yielded ops a.tmps) = true then Oper.wp P o a w K Q else E := by
  have hw : Region.wanted o (yielded ops a.tmps) = true := by simp [Region.wanted, hgd]
  rw [if_pos hw]
  have hrun := run_copy_rowK (P := P) w dT sT o.type elem size g off dLen dCap ad sLen sCap cur t cs hu hsz hg hn hsrc hfit h1
  unfold Oper.wp
  simp [execOp, ho, resolve, invoke, builtin, hd, hs, hrun, Result.andThen]
  have h' := h
  simp only [List.append_assoc] at h'
  exact h'
/-- append of n zeros behind a slice that has no room for them. -/
theorem run_append_grow_zeros (w : World) (t tn ty e : TypeId) (i : TypeInfo) (z : Value) (k kn : IntKind) (ht : P.underlying t = some (.slice e)) (htn : P.underlying tn = some (.int kn)) (hi : P.info? e = some i) (hz : i.zero = some z)
    (b : Addr) (sLen sCap : Nat) (olds : List Value) (hlo : olds.length = sLen * i.size) (holds : ∀ j v, olds[j]? = some v → w.cell? (b.add j) = some v)
    (n : Nat) (h0 : 0 < n) (hs : 0 < i.size) (hg : sCap < sLen + n) (h63 : ((sLen + n : Nat) : Int) ≤ 9223372036854775807) (h48 : n * i.bytes ≤ 281474976710656) (hfit : Builtin.nextslicecap (sLen + n) sCap * i.bytes ≤ 281474976710656) :
    (Builtin.append_ #[t, tn] ty #[.slice (some b) sLen sCap, .int k n]).run P w =
      .ok (.slice (some ⟨w.heap.size, 0, none⟩) (sLen + n) (grownCap w (sLen + n) sCap e))
        (w.drew.alloc (.cells (olds.toArray ++ Builtin.zeroCells z.cells n ++ Builtin.zeroCells z.cells (grownCap w (sLen + n) sCap e - (sLen + n))) e)) := by
  have hn0 : n ≠ 0 := by omega
  have hw : IntKind.i64.wrap (n : Int) = n := by rw [IntKind.wrap_i64]; omega
  have hneg : ¬ ((n : Int) < 0) := by omega
  have hns : ¬ (n * i.size = 0) := Nat.mul_ne_zero hn0 (by omega)
  have h48i : ¬ (281474976710656 < (n : Int) * (i.bytes : Int)) := by
    rw [← Int.natCast_mul]
    omega
  have hn : ¬ (sLen + n ≤ sCap) := by omega
  have h63' : ¬ (9223372036854775807 < ((sLen : Int) + (n : Int))) := by omega
  have h48' : ¬ (281474976710656 < Builtin.nextslicecap (sLen + n) sCap * i.bytes) := by omega
  have hfo := run_firstCells_some (P := P) w.drew i.size sLen b sLen sCap olds hlo (by simpa using holds)
  simp [Builtin.append_, run_underlying ht, run_underlying htn, sizeOf, typeInfo, zeroValue, hi, hz, asInt, asIntOf, hw, hn0, hneg, hns, hn, h63', h48', h48i, Question.forced, hfo, newRow, grownCap]
end
end Go.Proofs.YtgmgjhdckepmmaaGreat
end
