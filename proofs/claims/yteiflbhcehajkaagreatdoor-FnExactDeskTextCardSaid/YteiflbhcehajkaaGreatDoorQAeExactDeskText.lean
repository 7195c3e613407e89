/- Laws for data that a call lays anew: blocks in order, elements stored one by one. No program is named here. Contracts of the smallest functions. Contracts: lists of samples, copies, differences. Contracts: equal lists, marks, copies, differences. -/
import Derived.Test.YteiflbhcehajkaaGreatDoorQAbExactDeskText
import Derived.Test.YteiflbhcehajkaaGreatDoorQAaExactDeskText
import Derived.Test.YteiflbhcehajkaaGreatDoorRows
set_option linter.unusedVariables false
set_option linter.unusedSimpArgs false
section
namespace Go.Proofs.YteiflbhcehajkaaGreatDoor
open Go.RowKit
/-- Lists of blocks, one behind the other, from lo on and below hi. -/
def Sg : Nat → Nat → List (List Nat) → Prop
  | lo, hi, [] => lo ≤ hi
  | lo, hi, F :: r => ∃ m, lo ≤ m ∧ F.Nodup ∧ (∀ b ∈ F, lo ≤ b ∧ b < m) ∧ Sg m hi r
theorem Sg.le : ∀ {lo hi : Nat} {xs : List (List Nat)}, Sg lo hi xs → lo ≤ hi
  | _, _, [], h => h
  | _, _, _ :: _, ⟨_, h1, _, _, h2⟩ => Nat.le_trans h1 (Sg.le h2)
theorem Sg.app : ∀ {a b c : Nat} {xs ys : List (List Nat)}, Sg a b xs → Sg b c ys → Sg a c (xs ++ ys)
  | a, b, c, [], [], h, k => Nat.le_trans h k
  | a, b, c, [], F :: r, h, ⟨m, h1, h2, h3, h4⟩ => ⟨m, Nat.le_trans h h1, h2, fun x hx => ⟨Nat.le_trans h (h3 x hx).1, (h3 x hx).2⟩, h4⟩
  | a, b, c, F :: r, ys, ⟨m, h1, h2, h3, h4⟩, k => ⟨m, h1, h2, h3, Sg.app h4 k⟩
theorem Sg.more : ∀ {a a' b : Nat} {xs : List (List Nat)}, Sg a b xs → a' ≤ a → Sg a' b xs
  | _, _, _, [], h, k => Nat.le_trans k h
  | _, _, _, _ :: _, ⟨m, h1, h2, h3, h4⟩, k => ⟨m, Nat.le_trans k h1, h2, fun x hx => ⟨Nat.le_trans k (h3 x hx).1, (h3 x hx).2⟩, h4⟩
theorem Sg.all : ∀ {lo hi : Nat} {xs : List (List Nat)}, Sg lo hi xs → xs.flatten.Nodup ∧ ∀ b ∈ xs.flatten, lo ≤ b ∧ b < hi
  | _, _, [], _ => by simp
  | lo, hi, F :: r, ⟨m, h1, h2, h3, h4⟩ => by
    obtain ⟨k1, k2⟩ := Sg.all h4
    have hm := Sg.le h4
    refine ⟨?_, ?_⟩
    · rw [List.flatten_cons]
      exact nodup_lo h2 k1 (fun b hb => (h3 b hb).2) (fun b hb => (k2 b hb).1)
    · intro b hb
      rw [List.flatten_cons] at hb
      rcases List.mem_append.1 hb with hb | hb
      · have := h3 b hb; exact ⟨this.1, by omega⟩
      · have := k2 b hb; exact ⟨by omega, this.2⟩
theorem Nv.sg {w w' : World} {x : T} {F : List Nat} {v : Value} (h : Nv w w' x F v) : Sg w.heap.size w'.heap.size [F] :=
  ⟨w'.heap.size, h.below.size, h.nodup, fun b hb => ⟨h.lo b hb, h.lt b hb⟩, Nat.le_refl _⟩
theorem nf {F : List Nat} {lo g : Nat} (h : ∀ b ∈ F, lo ≤ b) (hg : g < lo) : g ∉ F := fun hm => by have := h g hm; omega
theorem Bk.born1' (w : World) (o : Obj) (t : TypeId) (cs : Array Value) : Bk ((w.alloc o).alloc (.cells cs t)) (w.heap.size + 1) t cs := by
  have := Bk.born (w.alloc o) t cs
  simpa using this
theorem Bk.born2 (w : World) (o o2 : Obj) (t : TypeId) (cs : Array Value) : Bk (((w.alloc o).alloc o2).alloc (.cells cs t)) (w.heap.size + 2) t cs := by
  have := Bk.born ((w.alloc o).alloc o2) t cs
  simpa using this
/-- Cells stored one behind the other. -/
def setsW (w : World) (g : Nat) : Nat → List Value → World
  | _, [] => w
  | p, u :: us => setsW (w.setCell ⟨g, p, none⟩ u) g (p + 1) us
def setsL (es : List Value) : Nat → List Value → List Value
  | _, [] => es
  | p, u :: us => setsL (es.set p u) (p + 1) us
theorem grown_set1 (w : World) (g o : Nat) (u : Value) : w.grownBy (w.setCell ⟨g, o, none⟩ u) (some g) :=
  ⟨rfl, rfl, rfl, by simp [World.setCell], fun k _ hne => Below.heap_setCell w _ u k (fun e => hne (by rw [e]))⟩
theorem own_sets {B E sz n g cap : Nat} : ∀ (us : List Value) (w : World) (p : Nat) (es : List Value), w.ownsRow B E sz (.slice (some ⟨g, 0, none⟩) n cap) n es →
    (setsW w g p us).ownsRow B E sz (.slice (some ⟨g, 0, none⟩) n cap) n (setsL es p us) ∧ w.grownBy (setsW w g p us) (some g)
  | [], w, p, es, h => ⟨h, World.grownBy.refl _ _⟩
  | u :: us, w, p, es, h => by
    obtain ⟨h1, h2⟩ := own_sets us (w.setCell ⟨g, p, none⟩ u) (p + 1) (es.set p u) (World.ownsRow.stored h p u).1
    exact ⟨h1, (grown_set1 w g p u).trans h2⟩
theorem setsL_mid : ∀ (us zs c1 c2 : List Value), us.length = zs.length → setsL (c1 ++ (zs ++ c2)) c1.length us = c1 ++ (us ++ c2)
  | [], [], c1, c2, _ => rfl
  | u :: us, z :: zs, c1, c2, h => by
    have e : (c1 ++ ((z :: zs) ++ c2)).set c1.length u = (c1 ++ [u]) ++ (zs ++ c2) := by
      rw [List.set_append_right _ _ (Nat.le_refl _), Nat.sub_self]
      simp
    have := setsL_mid us zs (c1 ++ [u]) c2 (by simpa using h)
    simp only [setsL]
    rw [e]
    rw [List.length_append, List.length_singleton] at this
    rw [this]
    simp
theorem cut_len {α : Type} {l : List α} {n : Nat} (h : n ≤ l.length) : ∃ a b, l = a ++ b ∧ a.length = n := ⟨l.take n, l.drop n, (List.take_append_drop n l).symm, by rw [List.length_take]; omega⟩
theorem len1 {α : Type} {l : List α} (h : l.length = 1) : ∃ a, l = [a] := by match l, h with | [a], _ => exact ⟨a, rfl⟩
theorem len2 {α : Type} {l : List α} (h : l.length = 2) : ∃ a b, l = [a, b] := by match l, h with | [a, b], _ => exact ⟨a, b, rfl⟩
theorem len3 {α : Type} {l : List α} (h : l.length = 3) : ∃ a b c, l = [a, b, c] := by match l, h with | [a, b, c], _ => exact ⟨a, b, c, rfl⟩
theorem len4 {α : Type} {l : List α} (h : l.length = 4) : ∃ a b c d, l = [a, b, c, d] := by match l, h with | [a, b, c, d], _ => exact ⟨a, b, c, d, rfl⟩
theorem len5 {α : Type} {l : List α} (h : l.length = 5) : ∃ a b c d e, l = [a, b, c, d, e] := by match l, h with | [a, b, c, d, e], _ => exact ⟨a, b, c, d, e, rfl⟩
theorem len7 {α : Type} {l : List α} (h : l.length = 7) : ∃ a b c d e f g, l = [a, b, c, d, e, f, g] := by match l, h with | [a, b, c, d, e, f, g], _ => exact ⟨a, b, c, d, e, f, g, rfl⟩
theorem own_cell {w : World} {B E sz n g cap : Nat} {c1 zs c2 : List Value} (h : w.ownsRow B E sz (.slice (some ⟨g, 0, none⟩) n cap) n (c1 ++ (zs ++ c2))) {j : Nat} {u : Value} (hj : zs[j]? = some u) : w.cell? ⟨g, c1.length + j, none⟩ = some u := by
  have hl := (List.getElem?_eq_some_iff.1 hj).1
  rw [World.ownsRow.cellAt h (c1.length + j) (by rw [← h.1]; simp; omega)]
  rw [List.getElem?_append_right (by omega), Nat.add_sub_cancel_left, List.getElem?_append_left hl]
  exact hj
theorem own_free {w : World} {B E sz n g cap : Nat} {es : List Value} (h : w.ownsRow B E sz (.slice (some ⟨g, 0, none⟩) n cap) n es) (j : Nat) : w.frozen? ⟨g, j, none⟩ = false := World.ownsRow.frozenAt h j
theorem T.ows_snoc {w : World} {xs : List T} {x : T} {F F' : List Nat} {c1 c2 : List Value} (h : T.ows w xs F c1) (k : T.ow w x F' c2) : T.ows w (xs ++ [x]) (F ++ F') (c1 ++ c2) :=
  (T.ows_app xs [x] _ _).2 ⟨F, F', c1, c2, rfl, rfl, h, by simp only [T.ows]; exact ⟨F', [], c2, [], by simp, by simp, k, rfl, rfl⟩⟩
theorem T.ows_grown {w w' : World} {xs : List T} {F : List Nat} {cs : List Value} {g : Nat} (h : T.ows w xs F cs) (hg : w.grownBy w' (some g)) (hn : g ∉ F) : T.ows w' xs F cs :=
  T.ows_keep xs F cs (fun b hb => hg.block b (T.ows_lt xs F cs h b hb) (fun e => hn (by injection e with e; rw [← e]; exact hb))) h
theorem T.ow_grown {w w' : World} {x : T} {F : List Nat} {cs : List Value} {g : Nat} (h : T.ow w x F cs) (hg : w.grownBy w' (some g)) (hn : g ∉ F) : T.ow w' x F cs :=
  T.ow_keep x F cs (fun b hb => hg.block b (T.ow_lt x F cs h b hb) (fun e => hn (by injection e with e; rw [← e]; exact hb))) h
/-- The row being filled: the first k elements are laid. -/
structure Fil (w0 wr : World) (E sz n : Nat) (xs : List T) (G : List Nat) (c1 c2 : List Value) : Prop where
  own : wr.ownsRow 0 E sz (.slice (some ⟨w0.heap.size, 0, none⟩) n n) n (c1 ++ c2)
  ows : T.ows wr xs G c1
  nodup : G.Nodup
  lo : ∀ b ∈ G, w0.heap.size + 1 ≤ b
  below : Below w0.heap.size w0 wr
theorem Fil.len {w0 wr : World} {E sz n : Nat} {xs : List T} {G : List Nat} {c1 c2 : List Value} (h : Fil w0 wr E sz n xs G c1 c2) (hw : ∀ x ∈ xs, T.wide x = sz) : c1.length = xs.length * sz := by
  rw [T.ows_len h.ows, T.wides_mul xs hw]
/-- A call that lays memory leaves the row as it is. -/
theorem Fil.call {w0 wr w1 : World} {E sz n : Nat} {xs : List T} {G : List Nat} {c1 c2 : List Value} (h : Fil w0 wr E sz n xs G c1 c2) (hb : Below wr.heap.size wr w1) : Fil w0 w1 E sz n xs G c1 c2 :=
  ⟨own_all h.own hb, T.ows_all h.ows hb, h.nodup, h.lo, bthen h.below h.below.size hb⟩
/-- One element more. -/
theorem Fil.step {w0 wr w1 : World} {E sz n : Nat} {xs : List T} {G F : List Nat} {c1 zs c2 us : List Value} {x : T} (h : Fil w0 w1 E sz n xs G c1 (zs ++ c2)) (hl : us.length = zs.length)
    (hs : w0.heap.size + 1 ≤ wr.heap.size) (hx : T.ow w1 x F us) (hF : F.Nodup) (hF2 : ∀ b ∈ F, wr.heap.size ≤ b) (hG : ∀ b ∈ G, b < wr.heap.size) :
    Fil w0 (setsW w1 w0.heap.size c1.length us) E sz n (xs ++ [x]) (G ++ F) (c1 ++ us) c2 := by
  obtain ⟨h1, h2⟩ := own_sets us w1 c1.length _ h.own
  rw [setsL_mid us zs c1 c2 hl, ← List.append_assoc] at h1
  have hgG : w0.heap.size ∉ G := nf h.lo (by omega)
  have hgF : w0.heap.size ∉ F := nf hF2 (by omega)
  refine ⟨h1, T.ows_snoc (T.ows_grown h.ows h2 hgG) (T.ow_grown hx h2 hgF), nodup_lo h.nodup hF hG hF2, ?_, h.below.grown h2 h.below.size (fun k hk => by injection hk with hk; omega)⟩
  intro b hb
  rcases List.mem_append.1 hb with hb | hb
  · exact h.lo b hb
  · have := hF2 b hb; omega
theorem Fil.done {w0 wr : World} {E sz n : Nat} {xs : List T} {G : List Nat} {c1 : List Value} (h : Fil w0 wr E sz n xs G c1 []) (hw : ∀ x ∈ xs, T.wide x = sz) (hn : xs.length = n) :
    Nv w0 wr (.sl E sz xs) (w0.heap.size :: G) (.slice (some ⟨w0.heap.size, 0, none⟩) n n) := by
  have ho := h.own
  rw [List.append_nil] at ho
  refine ⟨?_, ?_, ?_, h.below⟩
  · simp only [T.ow]
    exact ⟨_, c1, G, rfl, rfl, hw, by rw [hn]; exact ho, h.ows⟩
  · rw [List.nodup_cons]; exact ⟨nf h.lo (by omega), h.nodup⟩
  · intro b hb
    rcases List.mem_cons.1 hb with rfl | hb
    · exact Nat.le_refl _
    · have := h.lo b hb; omega
theorem Fil.lt {w0 wr : World} {E sz n : Nat} {xs : List T} {G : List Nat} {c1 c2 : List Value} (h : Fil w0 wr E sz n xs G c1 c2) : ∀ b ∈ G, b < wr.heap.size := T.ows_lt _ _ _ h.ows
theorem Fil.up {w0 wr : World} {E sz n : Nat} {xs : List T} {G : List Nat} {c1 c2 : List Value} (h : Fil w0 wr E sz n xs G c1 c2) : w0.heap.size + 1 ≤ wr.heap.size := by
  have := (h.own.lt w0.heap.size rfl).2; omega
theorem Fil.born {w0 w1 : World} {E sz n : Nat} {es : List Value} (h : w1.ownsRow w0.heap.size E sz (.slice (some ⟨w0.heap.size, 0, none⟩) n n) n es) (hg : w0.grownBy w1 none) : Fil w0 w1 E sz n [] [] [] es :=
  ⟨own_more h (Nat.zero_le _), T.c_oe, by simp, by simp, (Below.refl _ _).grown hg (Nat.le_refl _) (by simp)⟩
theorem Fil.rest {w0 wr : World} {E sz n : Nat} {xs : List T} {G : List Nat} {c1 c2 : List Value} (h : Fil w0 wr E sz n xs G c1 c2) (hw : ∀ x ∈ xs, T.wide x = sz) : c2.length = n * sz - xs.length * sz := by
  have h1 := h.own.1
  have h2 := h.len hw
  rw [List.length_append] at h1
  omega
theorem T.rd_slice {w : World} {E : TypeId} {sz : Nat} {xs : List T} {u : Value} (h : T.rd w (.sl E sz xs) [u]) : ∃ A l c, u = .slice A l c := by
  obtain ⟨A, cap, rfl, _⟩ := T.rd_open h
  exact ⟨_, _, _, rfl⟩
theorem T.ow_slice {w : World} {E : TypeId} {sz : Nat} {xs : List T} {F : List Nat} {u : Value} (h : T.ow w (.sl E sz xs) F [u]) : ∃ A l c, u = .slice A l c := T.rd_slice (T.ow_rd _ _ _ h)
end Go.Proofs.YteiflbhcehajkaaGreatDoor
end
section
namespace Go.Proofs.YteiflbhcehajkaaGreatDoor
open Go.RowKit
set_option maxHeartbeats 400000 in
theorem c_l00In (n a b : Int) (w : World) : Calls Tryz.prog 56 #[.int .i64 n, .int .i64 a, .int .i64 b] w fun e w' => e = .returned (.bool (inB n a b)) ∧ w = w' := by
  by_cases h : a ≤ n
  all_goals
    go_enter Tryz.func56, Tryz.ntmps56
    go_wp2
    go_ret
    exact ⟨by first | (simp [inB, h]; done) | (simp [inB]; omega), rfl⟩
set_option maxHeartbeats 400000 in
theorem c_within (n a b : Int) (w : World) : Calls Tryz.prog 70 #[.int .i64 n, .int .i64 a, .int .i64 b] w fun e w' => e = .returned (.bool (inB n a b)) ∧ w = w' := by
  by_cases h : a ≤ n
  all_goals
    go_enter Tryz.func70, Tryz.ntmps70
    go_wp2
    go_ret
    exact ⟨by first | (simp [inB, h]; done) | (simp [inB]; omega), rfl⟩
theorem c_l01Sample (n : Int) (w : World) : Calls Tryz.prog 110 #[.int .i64 n] w fun e w' => e = .returned (.bool (decide (Smp n))) ∧ w = w' := by
  go_enter Tryz.func110, Tryz.ntmps110
  go_wp2_with (go_at_call 56; refine (c_l00In _ _ _ _).mono ?_; rintro e w' ⟨rfl, rfl⟩)
  go_ret
  exact ⟨rfl, rfl⟩
theorem c_isSample (n : Int) (w : World) : Calls Tryz.prog 169 #[.int .i64 n] w fun e w' => e = .returned (.bool (decide (Smp n))) ∧ w = w' := by
  go_enter Tryz.func169, Tryz.ntmps169
  go_wp2_with (go_at_call 70; refine (c_within _ _ _ _).mono ?_; rintro e w' ⟨rfl, rfl⟩)
  go_ret
  exact ⟨rfl, rfl⟩
set_option maxHeartbeats 400000 in
theorem c_l03Ok (v : Value) (xs : List Int) (w : World) (hr : RdI w v xs) : Calls Tryz.prog 58 #[v] w fun e w' => e = .returned (.bool (sigB xs)) ∧ w = w' := by
  obtain ⟨A, cap, rfl, hl, hc, hx⟩ := hr.open_
  have HX := hide hx; clear hx hr
  by_cases h4 : xs.length ≤ 4000
  · go_enter Tryz.func58, Tryz.ntmps58
    go_wp2
    go_loop [3] (fun i => ∃ k : Nat, k ≤ xs.length ∧ i = .int .i64 k ∧ smpB (xs.take k) = true) (fun i => xs.length - (intOf i).toNat)
    case atStart => exact ⟨0, Nat.zero_le _, rfl, by simp [smpB]⟩
    case round =>
      obtain ⟨k, hk, rfl, hs⟩ := hrel
      have HS := hide hs; clear hs
      by_cases hlt : k < xs.length
      · obtain ⟨b, off, rfl, hb, hcell⟩ := HX.out k xs[k] (List.getElem?_eq_getElem hlt)
        by_cases hsm : Smp xs[k]
        · have hd : decide (Smp xs[k]) = true := by simpa using hsm
          go_wp2_with (go_at_call 110; refine (c_l01Sample _ _).mono ?_; rintro e w' ⟨rfl, rfl⟩)
          go_round
          case rel => exact ⟨k + 1, by omega, by go_num, smpB_take_succ (List.getElem?_eq_getElem hlt) HS.out hsm⟩
          case measure => simp [intOf]; omega
        · have hd : decide (Smp xs[k]) = false := by simpa using hsm
          go_wp2_with (go_at_call 110; refine (c_l01Sample _ _).mono ?_; rintro e w' ⟨rfl, rfl⟩)
          go_ret
          exact ⟨by simp [sigB, smpB_no (List.getElem?_eq_getElem hlt) hsm], rfl⟩
      · go_wp2
        go_ret
        have : k = xs.length := by omega
        subst this
        have := HS.out
        rw [List.take_length] at this
        exact ⟨by simp [sigB, h4, this], rfl⟩
  · go_enter Tryz.func58, Tryz.ntmps58
    go_wp2
    go_ret
    exact ⟨by simp [sigB]; omega, rfl⟩
end Go.Proofs.YteiflbhcehajkaaGreatDoor
end
section
namespace Go.Proofs.YteiflbhcehajkaaGreatDoor
open Go.RowKit
theorem info_i64 : (Tryz.prog.info? 2).map (fun i => (i.zero, i.size, i.bytes)) = some (some (.int .i64 0), 1, 8) := by kernel_rfl
theorem app1_i64 {w : World} {ops : Array Oper} {rest : List Oper} {o : Oper} {a : Act} {Q : Exit → Act → World → Prop} {n : Int} (hgd : o.guard = none) (s x : Operand)
    (ho : o.op = .call { callee := .builtin .append, args := #[s, x], argTypes := #[24, 24] }) {B : Nat} {v : Value} {xs : List Int} (hs : a.eval s = v) (hown : OwI 2 w B v xs)
    (hx : a.eval x = .slice (some ⟨w.heap.size, 0, none⟩) 1 1) (hl : xs.length + 1 ≤ 17592186044416) (hB : B ≤ w.heap.size)
    (h : ∀ v' w', OwI 2 w' B v' (xs ++ [n]) → w.grownBy w' v.ownBlock → (∀ k, v'.ownBlock = some k → v.ownBlock = some k ∨ w.heap.size ≤ k) → wpList Tryz.prog ops Q rest (a.put o.dst v') w') :
    wpList Tryz.prog ops Q (o :: rest) a (w.alloc (.cells #[.int .i64 n] 2)) :=
  app_one hgd s x _ ho B _ _ 1 8 Tryz.underlying24 info_i64 rfl (by omega) v xs.length _ hs hown hx rfl (by simp [Value.oneCell']) (by omega) (by omega) hB
    fun v' w' h1 h2 h3 => h v' w' (by unfold OwI; simpa using h1) h2 h3
theorem new_i64 (w : World) : OwI 2 (w.alloc (.cells #[] 2)) w.heap.size (.slice (some ⟨w.heap.size, 0, none⟩) 0 0) [] := World.ownsRow_made w #[] 0 (Nat.le_refl _) (by decide) rfl
set_option maxHeartbeats 400000 in
theorem c_areSamples (v : Value) (xs : List Int) (w : World) (hr : RdI w v xs) : Calls Tryz.prog 150 #[v] w fun e w' => e = .returned (.bool (smpB xs)) ∧ w = w' := by
  obtain ⟨A, cap, rfl, hl, hc, hx⟩ := hr.open_
  have HX := hide hx; clear hx hr
  go_enter Tryz.func150, Tryz.ntmps150
  go_wp2
  go_loop [7] (fun i => ∃ k : Nat, k ≤ xs.length ∧ i = .int .i64 k ∧ smpB (xs.take k) = true) (fun i => xs.length - (intOf i).toNat)
  case atStart => exact ⟨0, Nat.zero_le _, rfl, by simp [smpB]⟩
  case round =>
    obtain ⟨k, hk, rfl, hs⟩ := hrel
    have HS := hide hs; clear hs
    by_cases hlt : k < xs.length
    · obtain ⟨b, off, rfl, hb, hcell⟩ := HX.out k xs[k] (List.getElem?_eq_getElem hlt)
      by_cases hsm : Smp xs[k]
      · have hd : decide (Smp xs[k]) = true := by simpa using hsm
        go_wp2_with (go_at_call 169; refine (c_isSample _ _).mono ?_; rintro e w' ⟨rfl, rfl⟩)
        go_round
        case rel => exact ⟨k + 1, by omega, by go_num, smpB_take_succ (List.getElem?_eq_getElem hlt) HS.out hsm⟩
        case measure => simp [intOf]; omega
      · have hd : decide (Smp xs[k]) = false := by simpa using hsm
        go_wp2_with (go_at_call 169; refine (c_isSample _ _).mono ?_; rintro e w' ⟨rfl, rfl⟩)
        go_ret
        exact ⟨by simp [smpB_no (List.getElem?_eq_getElem hlt) hsm], rfl⟩
    · go_wp2
      go_ret
      have : k = xs.length := by omega
      subst this
      have := HS.out
      rw [List.take_length] at this
      exact ⟨by simp [this], rfl⟩
set_option maxHeartbeats 400000 in
theorem c_isSignal (v : Value) (xs : List Int) (w : World) (hr : RdI w v xs) : Calls Tryz.prog 100 #[v] w fun e w' => e = .returned (.bool (sigB xs)) ∧ w = w' := by
  obtain ⟨A, cap, rfl, hl, hc, hx⟩ := hr.open_
  have HX := hide hx; clear hx
  have HR := hide hr; clear hr
  by_cases h4 : xs.length ≤ 4000
  all_goals
    go_enter Tryz.func100, Tryz.ntmps100
    go_wp2_with (go_at_call 150; refine (c_areSamples _ _ _ HR.out).mono ?_; rintro e w' ⟨rfl, rfl⟩)
    go_ret
    first | exact ⟨by simp [sigB, h4], rfl⟩ | exact ⟨by simp [sigB]; omega, rfl⟩
set_option maxHeartbeats 400000 in
theorem c_toInt64S (v : Value) (xs : List Int) (w : World) (hr : RdI w v xs) (hn : xs.length ≤ 1048576) : Calls Tryz.prog 24 #[v] w fun e w' => ∃ v', e = .returned v' ∧ OwI 2 w' w.heap.size v' xs ∧ Below w.heap.size w w' := by
  obtain ⟨A, cap, rfl, hl, hc, hx⟩ := hr.open_
  have HX := hide hx; clear hx
  have HR := hide hr; clear hr
  obtain ⟨i0, hi, hz0, hz1, hz2⟩ := info_parts info_i64
  go_enter Tryz.func24, Tryz.ntmps24
  go_wp2_with (at_make; refine wpList_make_full _ rfl _ _ _ rfl w.heap.size 2 i0 _ 1 Tryz.underlying24 hi hz0 hz1 .i64 .i64 _ _ xs.length rfl rfl rfl rfl (by rw [hz2]; omega) (by unfold maxLen; omega) (Nat.le_refl _) ?_; intro w1 hown1 hg1)
  have ho1 : OwI 2 w1 w.heap.size _ _ := OwI.made _ w1 (n := xs.length) hg1.size (by unfold maxLen; omega) 0 hown1
  have hb1 : Below w.heap.size w w1 := (Below.refl _ _).grown hg1 (Nat.le_refl _) (by simp)
  clear hown1 hg1
  have HO := hide ho1; have HB := hide hb1; clear ho1 hb1
  go_loopw [4] (fun i wr => ∃ k : Nat, k ≤ xs.length ∧ i = .int .i64 k ∧ OwI 2 wr w.heap.size (.slice (some ⟨w.heap.size, 0, none⟩) xs.length xs.length) (xs.take k ++ (List.replicate xs.length 0).drop k) ∧ Below w.heap.size w wr) (fun i _ => xs.length - (intOf i).toNat)
  case atStart => exact ⟨0, Nat.zero_le _, rfl, by simpa using HO.out, HB.out⟩
  case round =>
    obtain ⟨k, hk, rfl, ho, hb⟩ := hrel
    have HO := hide ho; have HB := hide hb; clear ho hb
    by_cases hlt : k < xs.length
    · obtain ⟨b, off, rfl, hbw, hcell⟩ := HX.out k xs[k] (List.getElem?_eq_getElem hlt)
      have h1 : wr.cell? ⟨b, off + k, none⟩ = some (.int .i64 xs[k]) := (HB.out.cell hbw).trans hcell
      have h2 : wr.cell? ⟨w.heap.size, k, none⟩ = some (.int .i64 0) := HO.out.cellN (by rw [getElem?_mix (by simp) (by simpa using hlt)]; simp [hlt])
      have h3 := HO.out.freeN k
      go_wp2
      go_roundw
      case rel => exact ⟨k + 1, by omega, by go_num, by have := HO.out.setN k xs[k]; rw [set_mix (by simp) (List.getElem?_eq_getElem hlt)] at this; exact this, HB.out.setCell (Nat.le_refl _) _⟩
      case measure => simp [intOf]; omega
    · go_wp2
      go_ret
      have : k = xs.length := by omega
      subst this
      exact ⟨_, rfl, by have := HO.out; simpa using this, HB.out⟩
end Go.Proofs.YteiflbhcehajkaaGreatDoor
end
section
namespace Go.Proofs.YteiflbhcehajkaaGreatDoor
open Go.RowKit
set_option maxHeartbeats 400000 in
theorem c_eqInt64S (v1 v2 : Value) (xs ys : List Int) (w : World) (hr1 : RdI w v1 xs) (hr2 : RdI w v2 ys) : Calls Tryz.prog 31 #[v1, v2] w fun e w' => e = .returned (.bool (decide (xs = ys))) ∧ Dr w w' := by
  obtain ⟨A1, cap1, rfl, hl1, hc1, hx1⟩ := hr1.open_
  obtain ⟨A2, cap2, rfl, hl2, hc2, hx2⟩ := hr2.open_
  have HX1 := hide hx1; have HX2 := hide hx2; clear hx1 hx2 hr1 hr2
  by_cases hll : xs.length = ys.length
  · have hb : ((xs.length : Int) != (ys.length : Int)) = false := by simp [hll]
    have HL := hide hll; clear hll
    go_enter Tryz.func31, Tryz.ntmps31
    go_wp2
    go_loopw [5] (fun i wr => ∃ k : Nat, k ≤ xs.length ∧ i = .int .i64 k ∧ xs.take k = ys.take k ∧ Dr w wr) (fun i _ => xs.length - (intOf i).toNat)
    case atStart => exact ⟨0, Nat.zero_le _, rfl, rfl, Dr.refl _⟩
    case round =>
      obtain ⟨k, hk, rfl, hs, nr, rfl⟩ := hrel
      have HS := hide hs; clear hs
      by_cases hlt : k < xs.length
      · have hlt2 : k < ys.length := by have := HL.out; omega
        obtain ⟨b1, off1, rfl, hb1, hcell1⟩ := HX1.out k xs[k] (List.getElem?_eq_getElem hlt)
        obtain ⟨b2, off2, rfl, hb2, hcell2⟩ := HX2.out k ys[k] (List.getElem?_eq_getElem hlt2)
        by_cases he : xs[k] = ys[k]
        · have hd : (xs[k] != ys[k]) = false := by simp [he]
          have HE := hide he; clear he
          go_wp2
          go_quiet (fail)
          go_wp2
          go_roundw
          case rel => exact ⟨k + 1, by omega, by go_num, takes_succ HS.out (List.getElem?_eq_getElem hlt) (by rw [HE.out]; exact List.getElem?_eq_getElem hlt2), (by repeat (first | exact Dr.refl _ | exact ⟨_, rfl⟩ | refine Dr.drewN ?_ _ | refine Dr.drew ?_))⟩
          case measure => simp [intOf]; omega
        · have hd : (xs[k] != ys[k]) = true := by simp [he]
          have HE := hide he; clear he
          go_wp2
          go_quiet (fail)
          go_wp2
          go_ret
          exact ⟨by simp [ne_at (List.getElem?_eq_getElem hlt) (List.getElem?_eq_getElem hlt2) HE.out], (by repeat (first | exact Dr.refl _ | exact ⟨_, rfl⟩ | refine Dr.drewN ?_ _ | refine Dr.drew ?_))⟩
      · go_wp2
        go_ret
        exact ⟨by simp [eq_of_takes (k := k) (by omega) HL.out HS.out], (by repeat (first | exact Dr.refl _ | exact ⟨_, rfl⟩ | refine Dr.drewN ?_ _ | refine Dr.drew ?_))⟩
  · have hb : ((xs.length : Int) != (ys.length : Int)) = true := by simp; omega
    have hne : xs ≠ ys := fun e => hll (by rw [e])
    have HN := hide hne; clear hll hne
    go_enter Tryz.func31, Tryz.ntmps31
    go_wp2
    go_ret
    exact ⟨by simp [HN.out], Dr.refl _⟩
theorem c_eqI (v1 v2 : Value) (xs : List Int) (w : World) (hr1 : RdI w v1 xs) (hr2 : RdI w v2 xs) : Calls Tryz.prog 31 #[v1, v2] w fun e w' => e = .returned (.bool true) ∧ Dr w w' :=
  (c_eqInt64S v1 v2 xs xs w hr1 hr2).mono fun e w' ⟨h1, h2⟩ => ⟨by rw [h1]; simp, h2⟩
end Go.Proofs.YteiflbhcehajkaaGreatDoor
end
