/- Contracts: the parts of a text; append at slices of strings. -/
import Derived.Test.YtjbcanihpcfncaaDoorAa
import Derived.Test.YtjbcanihpcfncaaDoorSh
import Derived.Test.YtjbcanihpcfncaaDoorUa
import Derived.Test.YtjbcanihpcfncaaDoorTb
import Derived.Deep.RegionHeld3
import Derived.Deep.RegionHeldLaw
namespace Go.Proofs.YtjbcanihpcfncaaDoor
open Go.RowKit
theorem info_str : (Tryd.prog.info? 9).map (fun i => (i.zero, i.size, i.bytes)) = some (some (.string ByteArray.empty), 1, 16) := by kernel_rfl
theorem flat_app {α : Type} (en : α → List Value) (xs ys : List α) : (xs ++ ys).flatMap en = xs.flatMap en ++ ys.flatMap en := by simp
theorem app1_str {w : World} {ops : Array Oper} {rest : List Oper} {o : Oper} {a : Act} {Q : Exit → Act → World → Prop} {n : ByteArray} (hgd : o.guard = none) (s x : Operand)
    (ho : o.op = .call { callee := .builtin .append, args := #[s, x], argTypes := #[28, 28] }) {B : Nat} {v : Value} {xs : List ByteArray} (hs : a.eval s = v) (hown : OwS 9 w B v xs)
    (hx : a.eval x = .slice (some ⟨w.heap.size, 0, none⟩) 1 1) (hl : xs.length + 1 ≤ 8796093022208) (hB : B ≤ w.heap.size)
    (h : ∀ v' w', OwS 9 w' B v' (xs ++ [n]) → w.grownBy w' v.ownBlock → (∀ k, v'.ownBlock = some k → v.ownBlock = some k ∨ w.heap.size ≤ k) → wpList Tryd.prog ops Q rest (a.put o.dst v') w') :
    wpList Tryd.prog ops Q (o :: rest) a (w.alloc (.cells #[.string n] 9)) :=
  app_one hgd s x _ ho B _ _ 1 16 Tryd.underlying28 info_str rfl (by omega) v xs.length _ hs hown.2 hx rfl (by simp [Value.oneCell']) (by omega) (by omega) hB
    fun v' w' h1 h2 h3 => h v' w' ⟨strV_len, by rw [flat_app, List.length_append]; exact h1⟩ h2 h3
theorem str_oneCell (ys : List ByteArray) : ∀ u ∈ ys.flatMap strV, u.oneCell' = true := by
  intro u hu
  simp only [List.mem_flatMap, strV, List.mem_singleton] at hu
  obtain ⟨y, _, rfl⟩ := hu
  rfl
theorem appm_str {w : World} {ops : Array Oper} {rest : List Oper} {o : Oper} {a : Act} {Q : Exit → Act → World → Prop} (hgd : o.guard = none) (s x : Operand)
    (ho : o.op = .call { callee := .builtin .append, args := #[s, x], argTypes := #[28, 28] }) {B : Nat} {v : Value} {xs : List ByteArray} (hs : a.eval s = v) (hown : OwS 9 w B v xs)
    {y : Value} {ys : List ByteArray} (hx : a.eval x = y) (hr : RdS w y ys) (hl : xs.length + ys.length ≤ 8796093022208) (hB : B ≤ w.heap.size)
    (h : ∀ v' w', OwS 9 w' B v' (xs ++ ys) → w.grownBy w' v.ownBlock → (∀ k, v'.ownBlock = some k → v.ownBlock = some k ∨ w.heap.size ≤ k) → wpList Tryd.prog ops Q rest (a.put o.dst v') w') :
    wpList Tryd.prog ops Q (o :: rest) a w :=
  app_many hgd s x _ ho B _ _ 1 16 Tryd.underlying28 info_str rfl (by omega) v xs.length _ hs hown.2 y ys.length _ hx hr.2 (str_oneCell _) (by omega) (by omega) hB
    fun v' w' h1 h2 h3 => h v' w' ⟨strV_len, by rw [flat_app, List.length_append]; exact h1⟩ h2 h3
theorem new_str (w : World) : OwS 9 (w.alloc (.cells #[] 9)) w.heap.size (.slice (some ⟨w.heap.size, 0, none⟩) 0 0) [] := ⟨strV_len, World.ownsRow_made w #[] 0 (Nat.le_refl _) (by decide) rfl⟩
/-- A slice cut behind its first elements. -/
theorem OwG.cut {α : Type} {en : α → List Value} {sz : Nat} {E : TypeId} {w : World} {B g n cap m : Nat} {xs : List α} (h : OwG en sz E w B (.slice (some ⟨g, 0, none⟩) n cap) xs) (hm : m ≤ xs.length) : OwG en sz E w B (.slice (some ⟨g, 0, none⟩) m cap) (xs.take m) := by
  obtain rfl := h.sizeN
  have hl : (xs.take m).length = m := by simp; omega
  have hf : (xs.take m).flatMap en = (xs.flatMap en).take (m * sz) := by
    have e : xs.flatMap en = (xs.take m).flatMap en ++ (xs.drop m).flatMap en := by rw [← flat_app, List.take_append_drop]
    rw [e, List.take_append_of_le_length (by rw [flat_len h.1, hl]; omega)]
    exact (List.take_of_length_le (by rw [flat_len h.1, hl]; omega)).symm
  refine ⟨h.1, by rw [flat_len h.1], ?_⟩
  rcases h.2.2 with ⟨h', _⟩ | ⟨g', cap', cur, h', hb, hg, hn, hmx, hsz, ht⟩
  · cases h'
  · injection h' with h1 h2 h3
    injection h1 with h1
    injection h1 with h1
    subst h1 h3
    rw [hl]
    have hle : m * sz ≤ xs.length * sz := Nat.mul_le_mul_right _ hm
    refine .inr ⟨g, cap, cur, rfl, hb, hg, by omega, hmx, hsz, ?_⟩
    rw [hf, ← ht, List.take_take, Nat.min_eq_left hle]
theorem mkS_sub (s : ByteArray) (a b : Nat) : s.extract a b = mkS ((s.data.toList.drop a).take (b - a)) := by
  apply ByteArray.ext
  rw [ByteArray.data_extract]
  apply Array.toList_inj.1
  rw [Array.toList_extract, List.extract_eq_take_drop]
  rfl
theorem mkS_take (s : ByteArray) (m : Nat) : s.extract 0 m = mkS (s.data.toList.take m) := by rw [mkS_sub]; simp
theorem fst_idx (c : UInt8) (l : List UInt8) : (fstI c l < l.length → Lib.indexByte l c = (fstI c l : Int)) ∧ (¬ fstI c l < l.length → Lib.indexByte l c = -1) := by
  unfold fstI
  induction l with
  | nil => simp [Lib.indexByte]
  | cons b t ih =>
    unfold Lib.indexByte
    rw [List.findIdx_cons]
    by_cases hb : b = c
    · simp [hb]
    · have hb2 : (b == c) = false := by simp [hb]
      rw [hb2]
      simp only [Bool.false_eq_true, if_false, cond_false, List.length_cons, Nat.add_lt_add_iff_right]
      by_cases hlt : List.findIdx (· == c) t < t.length
      · rw [ih.1 hlt]
        refine ⟨fun _ => ?_, fun h => absurd hlt h⟩
        have : (((List.findIdx (· == c) t : Nat) : Int) == -1) = false := by simp
        rw [this]; simp
      · rw [ih.2 hlt]
        exact ⟨fun h => absurd h hlt, fun _ => by simp⟩
theorem cap_of {w : World} {v : Value} {α : Type} {en : α → List Value} {sz n cap : Nat} {A : Option Addr} {xs : List α} (h : RdG en sz w v xs) (hv : v = .slice A n cap) : n = xs.length ∧ xs.length ≤ cap ∧ cap ≤ 9223372036854775807 := by
  obtain ⟨A', cap', h1, h2, h3, _⟩ := h.open_
  rw [h1] at hv; injection hv with _ e1 e2
  exact ⟨e1.symm, by omega, by omega⟩
end Go.Proofs.YtjbcanihpcfncaaDoor
