/- Contracts: the places of frames, reference side. Contracts: a store that is opened, its frames' places; the other side. FramesOf: the walk of the program's side; the law. FramesOf: the law. -/
import Derived.Test.YtpmflkoepnanoaaDoorFa
import Derived.Test.YtpmflkoepnanoaaDoorBc
import Derived.Test.YtpmflkoepnanoaaDoorLk
namespace Go.Proofs.YtpmflkoepnanoaaDoor
section
open Go.RowKit
/-- The places of k frames from a place on, behind those that are known; and the code. -/
def plF (s : ByteArray) : Nat → Nat → List Int → List Int × Int
  | 0, p, acc => if p = s.size then (acc ++ [(p : Int)], 0) else ([], 9)
  | k + 1, p, acc => if s.size < p + 2 ∨ s.size < p + 2 + numS s p then ([], 11) else plF s k (p + 2 + numS s p) (acc ++ [(p : Int)])
theorem plF_end {s : ByteArray} {p : Nat} {acc : List Int} (h : p = s.size) : plF s 0 p acc = (acc ++ [(p : Int)], 0) := by simp only [plF]; rw [if_pos h]
theorem plF_bad {s : ByteArray} {p : Nat} {acc : List Int} (h : p ≠ s.size) : plF s 0 p acc = ([], 9) := by simp only [plF]; rw [if_neg h]
theorem plF_cut {s : ByteArray} {k p : Nat} {acc : List Int} (h : s.size < p + 2 ∨ s.size < p + 2 + numS s p) : plF s (k + 1) p acc = ([], 11) := by simp only [plF]; rw [if_pos h]
theorem plF_go {s : ByteArray} {k p : Nat} {acc : List Int} (h : ¬ (s.size < p + 2 ∨ s.size < p + 2 + numS s p)) : plF s (k + 1) p acc = plF s k (p + 2 + numS s p) (acc ++ [(p : Int)]) := by simp only [plF]; rw [if_neg h]
/-- The places of a store, its samples, its frame size and the code. -/
def placesF (s : ByteArray) : List Int × Int := if (infoF s).2.2 = 0 then plF s (nch (numS s 6) (numS s 4)) 10 [] else ([], (infoF s).2.2)
theorem infoF_ok {s : ByteArray} (h : (infoF s).2.2 = 0) : infoF s = (((numS s 6 : Nat) : Int), ((numS s 4 : Nat) : Int), 0) ∧ 10 ≤ s.size ∧ numS s 6 ≤ 4000 ∧ 16 ≤ numS s 4 ∧ numS s 4 ≤ 256 := by
  unfold infoF at *
  split at h
  · simp at h
  · rename_i h10
    rw [if_neg h10]
    split at h
    · simp at h
    · rename_i h4
      rw [if_neg h4]
      split at h
      · simp at h
      · rename_i h8
        rw [if_neg h8]
        split at h
        · rename_i hok
          rw [if_pos hok]
          unfold okB at hok
          simp only [Bool.and_eq_true, decide_eq_true_eq] at hok
          have := inB_true.1 hok.1
          exact ⟨rfl, by omega, hok.2, by omega, by omega⟩
        · simp at h
theorem infoF_no {s : ByteArray} (h : (infoF s).2.2 ≠ 0) : (infoF s).1 = 0 ∧ (infoF s).2.1 = 0 ∧ 0 ≤ (infoF s).2.2 ∧ (infoF s).2.2 ≤ 11 := by
  unfold infoF at *
  repeat' split
  all_goals simp_all
def PlR (s : ByteArray) (w : World) (e : Ending) (w' : World) : Prop := ∃ v, e = .returned (.tuple #[v, .int .i64 (if (placesF s).2 = 0 then (infoF s).1 else 0), .int .i64 (if (placesF s).2 = 0 then (infoF s).2.1 else 0), .int .i64 (placesF s).2]) ∧ OwI 2 w' w.heap.size v (placesF s).1 ∧ Below w.heap.size w w'
theorem PlR.mk0 {s : ByteArray} {w w' : World} {v : Value} {xs : List Int} {a b : Int} (hp : placesF s = (xs, 0)) (hi : infoF s = (a, b, 0)) (ho : OwI 2 w' w.heap.size v xs) (hb : Below w.heap.size w w') :
    PlR s w (.returned (.tuple #[v, .int .i64 a, .int .i64 b, .int .i64 0])) w' := ⟨v, by rw [hp, hi]; rfl, by rw [hp]; exact ho, hb⟩
theorem PlR.mkE {s : ByteArray} {w w' : World} {c : Int} (hp : placesF s = ([], c)) (hc : c ≠ 0) (hb : Below w.heap.size w w') :
    PlR s w (.returned (.tuple #[.slice none 0 0, .int .i64 0, .int .i64 0, .int .i64 c])) w' := ⟨.slice none 0 0, by rw [hp]; simp [hc], by rw [hp]; exact ⟨rfl, .inl ⟨rfl, rfl⟩⟩, hb⟩
theorem results_tmp4 {fn : Func} {t u v x : Tmp} (h : fn.results = #[.tmp t, .tmp u, .tmp v, .tmp x]) (tmps : Array Value) (P : Program) (w : World) :
    (results fn tmps).run P w = .ok (.tuple #[tmps.getD t undef, tmps.getD u undef, tmps.getD v undef, tmps.getD x undef]) w := by simp [results, h]
theorem own_one (E : TypeId) (w : World) (B : Nat) (hB : B ≤ w.heap.size) (n : Int) : OwI E (w.alloc (.cells #[.int .i64 n] E)) B (.slice (some ⟨w.heap.size, 0, none⟩) 1 1) [n] :=
  ⟨by simp, .inr ⟨w.heap.size, 1, #[.int .i64 n], rfl, hB, heap_alloc_new w _, Nat.le_refl _, by decide, by simp, by simp⟩⟩
/-- The contract of FramesOf. -/
def FrO (s : ByteArray) (w : World) (e : Ending) (w' : World) : Prop := ∃ v, e = .returned (.tuple #[v, .int .i64 (placesF s).2]) ∧ OwI 2 w' w.heap.size v (placesF s).1 ∧ Below w.heap.size w w'
end
section
open Go.RowKit
theorem nch_lt {n f j : Nat} (hf : 16 ≤ f) : j < nch n f ↔ j * f < n := by
  unfold nch
  rw [← Nat.succ_le_iff, Nat.le_div_iff_mul_le (by omega), Nat.succ_mul]
  omega
/-- The contract of openStore: text, samples, frame size, places; the code. -/
def OsR (s : ByteArray) (w : World) (e : Ending) (w' : World) : Prop := ∃ (v : Value) (t : ByteArray) (n f c : Int), e = .returned (.tuple #[.agg #[.string t, .int .i64 n, .int .i64 f, v], .int .i64 c]) ∧ c = (placesF s).2 ∧ (c = 0 → t = s ∧ n = (infoF s).1 ∧ f = (infoF s).2.1) ∧ OwI 2 w' w.heap.size v (placesF s).1 ∧ Below w.heap.size w w'
theorem OsR.mkE {s : ByteArray} {w w' : World} {t : ByteArray} {n f c : Int} (hp : placesF s = ([], c)) (hc : c ≠ 0) (hb : Below w.heap.size w w') :
    OsR s w (.returned (.tuple #[.agg #[.string t, .int .i64 n, .int .i64 f, .slice none 0 0], .int .i64 c])) w' := ⟨_, _, _, _, _, rfl, by rw [hp], fun h => absurd h hc, by rw [hp]; exact OwI.nil_ _ _ _, hb⟩
theorem OsR.mk0 {s : ByteArray} {w w' : World} {v : Value} {n f : Int} {xs : List Int} (hp : placesF s = (xs, 0)) (hi : infoF s = (n, f, 0)) (ho : OwI 2 w' w.heap.size v xs) (hb : Below w.heap.size w w') :
    OsR s w (.returned (.tuple #[.agg #[.string s, .int .i64 n, .int .i64 f, v], .int .i64 0])) w' := ⟨_, _, _, _, _, rfl, by rw [hp], fun _ => ⟨rfl, by rw [hi], by rw [hi]⟩, by rw [hp]; exact ho, hb⟩
end
section
open Go.RowKit
theorem plF_no {s : ByteArray} : ∀ (k p : Nat) (acc : List Int), (plF s k p acc).2 ≠ 0 → (plF s k p acc).1 = []
  | 0, p, acc => by unfold plF; split <;> simp
  | k + 1, p, acc => by
    unfold plF
    split
    · simp
    · exact plF_no k _ _
theorem placesF_no {s : ByteArray} {ps : List Int} {c : Int} (h : placesF s = (ps, c)) (hc : c ≠ 0) : ps = [] := by
  have h1 : (placesF s).1 = ps := by rw [h]
  have h2 : (placesF s).2 = c := by rw [h]
  rw [← h1]
  rw [← h2] at hc
  unfold placesF at *
  split
  · rename_i h0
    rw [if_pos h0] at hc
    exact plF_no _ _ _ hc
  · rfl
end
open Go.RowKit
theorem plF_len {s : ByteArray} : ∀ (k p : Nat) (acc : List Int), (plF s k p acc).1.length ≤ acc.length + k + 1
  | 0, p, acc => by unfold plF; split <;> simp
  | k + 1, p, acc => by
    unfold plF
    split
    · simp
    · have := plF_len (s := s) k (p + 2 + numS s p) (acc ++ [(p : Int)])
      simp at this
      omega
theorem placesF_len {s : ByteArray} : (placesF s).1.length ≤ 70000 := by
  unfold placesF
  split
  · have h := plF_len (s := s) (nch (numS s 6) (numS s 4)) 10 []
    rename_i h0
    obtain ⟨_, _, h1, h2, h3⟩ := infoF_ok h0
    have hk0 : nch (numS s 6) (numS s 4) ≤ 5000 := by unfold nch; exact Nat.le_trans (Nat.div_le_self _ _) (by omega)
    simp at h
    omega
  · simp
end Go.Proofs.YtpmflkoepnanoaaDoor
