/- Laws for data that is marked cell by cell. No program is named here. -/
import Derived.Test.YtfifcnojkjjnkaaGreatNm
namespace Go.Proofs.YtfifcnojkjjnkaaGreat
open Go.RowKit
def cntL {α : Type} (c : α → Nat) : List α → Nat
  | [] => 0
  | x :: r => c x + cntL c r
def mkL {α : Type} (m : α → Nat → α) (c : α → Nat) : List α → Nat → List α
  | [], _ => []
  | x :: r, k => m x k :: mkL m c r (k + c x)
section
variable {α : Type} {m : α → Nat → α} {c : α → Nat}
theorem length_mkL : ∀ (xs : List α) (k : Nat), (mkL m c xs k).length = xs.length
  | [], _ => rfl
  | x :: r, k => by simp [mkL, length_mkL r]
theorem cntL_snoc : ∀ (xs : List α) (x : α), cntL c (xs ++ [x]) = cntL c xs + c x
  | [], x => by simp [cntL]
  | y :: r, x => by simp only [List.cons_append, cntL, cntL_snoc r]; omega
theorem mkL_snoc : ∀ (xs : List α) (x : α) (k : Nat), mkL m c (xs ++ [x]) k = mkL m c xs k ++ [m x (k + cntL c xs)]
  | [], x, k => by simp [mkL, cntL]
  | y :: r, x, k => by simp only [List.cons_append, mkL, cntL, mkL_snoc r]; rw [Nat.add_assoc]
theorem cntL_take {xs : List α} {i : Nat} {x : α} (h : xs[i]? = some x) : cntL c (xs.take (i + 1)) = cntL c (xs.take i) + c x := by rw [take_snoc_of h, cntL_snoc]
theorem mkL_take {xs : List α} {i k : Nat} {x : α} (h : xs[i]? = some x) : mkL m c (xs.take (i + 1)) k = mkL m c (xs.take i) k ++ [m x (k + cntL c (xs.take i))] := by rw [take_snoc_of h, mkL_snoc]
theorem cntL_le : ∀ (xs : List α) (i : Nat), cntL c (xs.take i) ≤ cntL c xs
  | [], i => by simp [cntL]
  | x :: r, 0 => by simp [cntL]
  | x :: r, i + 1 => by simp only [List.take_succ_cons, cntL]; have := cntL_le r i; omega
theorem mkL_at : ∀ {xs : List α} {i k : Nat} {x : α}, xs[i]? = some x → (mkL m c xs k)[i]? = some (m x (k + cntL c (xs.take i)))
  | [], _, _, _, h => by simp at h
  | y :: r, 0, k, x, h => by simp at h; subst h; simp [mkL, cntL]
  | y :: r, i + 1, k, x, h => by
    have := mkL_at (xs := r) (i := i) (k := k + c y) (x := x) (by simpa using h)
    simp only [mkL, List.getElem?_cons_succ, List.take_succ_cons, cntL]
    rw [this, Nat.add_assoc]
end
section
variable {w w' a b : World} {F G : List Nat}
theorem Trn.refl (F : List Nat) (w : World) : Trn F w w := ⟨rfl, rfl, rfl, Nat.le_refl _, fun _ _ _ => rfl⟩
theorem Trn.trans (h : Trn F w a) (k : Trn F a b) : Trn F w b :=
  ⟨k.os.trans h.os, k.tape.trans h.tape, k.output.trans h.output, Nat.le_trans h.size k.size, fun x hx hn => (k.block x (Nat.lt_of_lt_of_le hx h.size) hn).trans (h.block x hx hn)⟩
theorem Trn.mono (h : Trn F w w') (hs : ∀ b ∈ F, b ∈ G) : Trn G w w' := ⟨h.os, h.tape, h.output, h.size, fun x hx hn => h.block x hx (fun e => hn (hs x e))⟩
theorem Trn.of_below (h : Below w.heap.size w w') : Trn F w w' := ⟨h.os, h.tape, h.output, h.size, fun x hx _ => h.block x hx⟩
theorem Trn.set_ {g : Nat} (hg : g ∈ F) (o : Nat) (u : Value) : Trn F w (w.setCell ⟨g, o, none⟩ u) :=
  ⟨rfl, rfl, rfl, by simp [World.setCell], fun x _ hn => Below.heap_setCell w _ u x (fun e => hn (by rw [show x = g from e]; exact hg))⟩
theorem Trn.alloc (o : Obj) : Trn F w (w.alloc o) := Trn.of_below ((Below.refl _ _).alloc (Nat.le_refl _) o)
theorem Trn.of_grown {v : Value} (h : w.grownBy w' v.ownBlock) : Trn v.ownBlock.toList w w' :=
  ⟨h.os, h.tape, h.output, h.size, fun x hx hn => h.block x hx (fun e => hn (by rw [← e]; simp))⟩
theorem Trn.below {B : Nat} {w0 : World} (hb : Below B w0 w) (h : Trn F w w') (hF : ∀ b ∈ F, B ≤ b) (hB : B ≤ w.heap.size) : Below B w0 w' :=
  hb.trans ⟨h.os, h.tape, h.output, h.size, fun k hk => h.block k (by omega) (fun e => by have := hF k e; omega)⟩
theorem T.ow_trn {x : T} {cs : List Value} (h : T.ow w x F cs) (k : Trn G w w') (hd : ∀ b ∈ F, b ∉ G) : T.ow w' x F cs :=
  T.ow_keep x F cs (fun b hb => k.block b (T.ow_lt x F cs h b hb) (hd b hb)) h
theorem T.ows_trn {xs : List T} {cs : List Value} (h : T.ows w xs F cs) (k : Trn G w w') (hd : ∀ b ∈ F, b ∉ G) : T.ows w' xs F cs :=
  T.ows_keep xs F cs (fun b hb => k.block b (T.ows_lt xs F cs h b hb) (hd b hb)) h
theorem own_trn {B E sz n g cap : Nat} {es : List Value} (h : w.ownsRow B E sz (.slice (some ⟨g, 0, none⟩) n cap) n es) (k : Trn G w w') (hd : g ∉ G) : w'.ownsRow B E sz (.slice (some ⟨g, 0, none⟩) n cap) n es :=
  ownsRow_keep (fun b hb => by
    have e : g = b := by simpa [Value.ownBlock] using hb
    subst e
    exact k.block _ (h.lt _ rfl).2 hd) h
theorem Bk.trn {g : Nat} {t : TypeId} {cs : Array Value} (h : Bk w g t cs) (k : Trn G w w') (hd : g ∉ G) : Bk w' g t cs := (k.block g h.lt hd).trans h
end
theorem nodup_fst {A B : List Nat} (h : (A ++ B).Nodup) : A.Nodup := (List.nodup_append.1 h).1
theorem nodup_snd {A B : List Nat} (h : (A ++ B).Nodup) : B.Nodup := (List.nodup_append.1 h).2.1
theorem nodup_dj {A B : List Nat} (h : (A ++ B).Nodup) : ∀ b ∈ A, b ∉ B := fun b h1 h2 => (List.nodup_append.1 h).2.2 b h1 b h2 rfl
theorem nodup_dj' {A B : List Nat} (h : (A ++ B).Nodup) : ∀ b ∈ B, b ∉ A := fun b h1 h2 => (List.nodup_append.1 h).2.2 b h2 b h1 rfl
theorem own_set1 {w : World} {B E sz n g cap j : Nat} {c1 cx c2 : List Value} {u : Value} (h : w.ownsRow B E sz (.slice (some ⟨g, 0, none⟩) n cap) n (c1 ++ (cx ++ c2))) (hj : j < cx.length) :
    (w.setCell ⟨g, c1.length + j, none⟩ u).ownsRow B E sz (.slice (some ⟨g, 0, none⟩) n cap) n (c1 ++ (cx.set j u ++ c2)) := by
  have := (World.ownsRow.stored h (c1.length + j) u).1
  rw [List.set_append_right _ _ (by omega), Nat.add_sub_cancel_left, List.set_append_left _ _ hj] at this
  exact this
/-- A slice of the call's own, open at one element. -/
structure Mid (w : World) (E : TypeId) (sz n g cap : Nat) (pre : List T) (x : T) (post : List T) (G1 Fx G2 : List Nat) (c1 cx c2 : List Value) : Prop where
  own : w.ownsRow 0 E sz (.slice (some ⟨g, 0, none⟩) n cap) n (c1 ++ (cx ++ c2))
  pr : T.ows w pre G1 c1
  el : T.ow w x Fx cx
  po : T.ows w post G2 c2
  nd : (g :: (G1 ++ (Fx ++ G2))).Nodup
  wd : ∀ y ∈ pre ++ x :: post, T.wide y = sz
  ln : n = (pre ++ x :: post).length
theorem T.mid {w : World} {E : TypeId} {sz : Nat} {pre : List T} {x : T} {post : List T} {F : List Nat} {v : Value} (h : T.ow w (.sl E sz (pre ++ x :: post)) F [v]) (hn : F.Nodup) :
    ∃ n g cap G1 Fx G2 c1 cx c2, v = .slice (some ⟨g, 0, none⟩) n cap ∧ F = g :: (G1 ++ (Fx ++ G2)) ∧ Mid w E sz n g cap pre x post G1 Fx G2 c1 cx c2 := by
  simp only [T.ow] at h
  obtain ⟨v', es, G, hv, rfl, hw, ho, hs⟩ := h
  obtain rfl : v = v' := by simpa using hv
  obtain ⟨G1, F2, c1, c3, rfl, rfl, h1, h2⟩ := (T.ows_app _ _ _ _).1 hs
  simp only [T.ows] at h2
  obtain ⟨Fx, G2, cx, c2, rfl, rfl, h3, h4⟩ := h2
  rcases ho.2 with ⟨_, h0⟩ | ⟨g, cap, cur, hv2, _⟩
  · simp at h0
  · subst hv2
    exact ⟨_, g, cap, G1, Fx, G2, c1, cx, c2, rfl, by simp [Value.ownBlock], ho, h1, h3, h4, by simpa [Value.ownBlock] using hn, hw, rfl⟩
theorem Mid.c1 {w : World} {E : TypeId} {sz n g cap : Nat} {pre : List T} {x : T} {post : List T} {G1 Fx G2 : List Nat} {c1 cx c2 : List Value} (h : Mid w E sz n g cap pre x post G1 Fx G2 c1 cx c2) : c1.length = pre.length * sz := by
  rw [T.ows_len h.pr, T.wides_mul pre (fun y hy => h.wd y (by simp [hy]))]
theorem Mid.gx {w : World} {E : TypeId} {sz n g cap : Nat} {pre : List T} {x : T} {post : List T} {G1 Fx G2 : List Nat} {c1 cx c2 : List Value} (h : Mid w E sz n g cap pre x post G1 Fx G2 c1 cx c2) : g ∉ Fx := fun hm => by
  have := (List.nodup_cons.1 h.nd).1
  exact this (by simp [hm])
theorem Mid.fx {w : World} {E : TypeId} {sz n g cap : Nat} {pre : List T} {x : T} {post : List T} {G1 Fx G2 : List Nat} {c1 cx c2 : List Value} (h : Mid w E sz n g cap pre x post G1 Fx G2 c1 cx c2) : Fx.Nodup :=
  nodup_fst (nodup_snd (List.nodup_cons.1 h.nd).2)
/-- The element has turned: the slice is closed again. -/
theorem Mid.close {w w' : World} {E : TypeId} {sz n g cap : Nat} {pre : List T} {x x' : T} {post : List T} {G1 Fx G2 : List Nat} {c1 cx cx' c2 : List Value} (h : Mid w E sz n g cap pre x post G1 Fx G2 c1 cx c2)
    (k : Trn (g :: Fx) w w') (ho : w'.ownsRow 0 E sz (.slice (some ⟨g, 0, none⟩) n cap) n (c1 ++ (cx' ++ c2))) (he : T.ow w' x' Fx cx') (hw : T.wide x' = sz) :
    T.ow w' (.sl E sz (pre ++ x' :: post)) (g :: (G1 ++ (Fx ++ G2))) [.slice (some ⟨g, 0, none⟩) n cap] := by
  have hg := (List.nodup_cons.1 h.nd).1
  have h2 := (List.nodup_cons.1 h.nd).2
  have d1 : ∀ b ∈ G1, b ∉ g :: Fx := fun b hb hm => by
    rcases List.mem_cons.1 hm with rfl | hm
    · exact hg (by simp [hb])
    · exact nodup_dj h2 b hb (by simp [hm])
  have d2 : ∀ b ∈ G2, b ∉ g :: Fx := fun b hb hm => by
    rcases List.mem_cons.1 hm with rfl | hm
    · exact hg (by simp [hb])
    · exact nodup_dj' (nodup_snd h2) b hb hm
  simp only [T.ow]
  refine ⟨_, c1 ++ (cx' ++ c2), G1 ++ (Fx ++ G2), rfl, by simp [Value.ownBlock], ?_, ?_, ?_⟩
  · intro y hy
    rcases List.mem_append.1 hy with hy | hy
    · exact h.wd y (by simp [hy])
    · rcases List.mem_cons.1 hy with rfl | hy
      · exact hw
      · exact h.wd y (by simp [hy])
  · have : (pre ++ x' :: post).length = n := by rw [h.ln]; simp
    rw [this]; exact ho
  · refine (T.ows_app _ _ _ _).2 ⟨G1, Fx ++ G2, c1, cx' ++ c2, rfl, rfl, T.ows_trn h.pr k d1, ?_⟩
    simp only [T.ows]
    exact ⟨Fx, G2, cx', c2, rfl, rfl, he, T.ows_trn h.po k d2⟩
theorem T.mid_empty {w : World} {E : TypeId} {sz : Nat} {F : List Nat} {v : Value} (h : T.ow w (.sl E sz []) F [v]) : ∃ A c, v = .slice A 0 c := by
  obtain ⟨A, cap, rfl, _⟩ := T.rd_open (T.ow_rd _ _ _ h)
  exact ⟨A, cap, rfl⟩
theorem T.ow_form {w : World} {E : TypeId} {sz : Nat} {xs : List T} {F : List Nat} {v : Value} (h : T.ow w (.sl E sz xs) F [v]) (hn : 0 < xs.length) : ∃ g cap, v = .slice (some ⟨g, 0, none⟩) xs.length cap ∧ xs.length ≤ cap ∧ cap ≤ 9223372036854775807 := by
  simp only [T.ow] at h
  obtain ⟨v', es, G, hv, _, _, ho, _⟩ := h
  obtain rfl : v = v' := by simpa using hv
  rcases ho.2 with ⟨_, h0⟩ | ⟨g, cap, cur, hv2, _, _, h1, h2, _⟩
  · omega
  · exact ⟨g, cap, hv2, h1, by unfold maxLen at h2; omega⟩
theorem own_st {w : World} {B E sz n g cap p : Nat} (j : Nat) {c1 cx c2 : List Value} {u : Value} (h : w.ownsRow B E sz (.slice (some ⟨g, 0, none⟩) n cap) n (c1 ++ (cx ++ c2))) (hc : c1.length = p) (hj : j < cx.length) :
    (w.setCell ⟨g, p + j, none⟩ u).ownsRow B E sz (.slice (some ⟨g, 0, none⟩) n cap) n (c1 ++ (cx.set j u ++ c2)) := by
  subst hc; exact own_set1 h hj
theorem own_at {w : World} {B E sz n g cap p : Nat} (j : Nat) {c1 zs c2 : List Value} (h : w.ownsRow B E sz (.slice (some ⟨g, 0, none⟩) n cap) n (c1 ++ (zs ++ c2))) (hc : c1.length = p) {u : Value} (hj : zs[j]? = some u) : w.cell? ⟨g, p + j, none⟩ = some u := by
  subst hc; exact own_cell h hj
end Go.Proofs.YtfifcnojkjjnkaaGreat
