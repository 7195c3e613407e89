/- Plain steps of the merge. Contract: MergeTexts by the program where a text is none. -/
import Derived.Test.YtpmflkoepnanoaaDoorMa
import Derived.Test.YtpmflkoepnanoaaDoorTc
namespace Go.Proofs.YtpmflkoepnanoaaDoor
section
open Go.RowKit
theorem mrgTo_step {ls : List ByteArray} {A B : List Chg} {n : Nat} {out : List ByteArray} (h : mrgTo ls A B n = some out) (hne : ¬ (insF A n ≠ [] ∧ insF B n ≠ [] ∧ insF A n ≠ insF B n)) :
    mrgTo ls A B (n + 1) = some (out ++ ((if insF A n = [] then insF B n else insF A n) ++ if delF A n || delF B n then [] else ls[n]?.toList)) := by
  simp only [mrgTo, h, mrgAt, if_neg hne]
theorem mrgTo_stop {ls : List ByteArray} {A B : List Chg} {n : Nat} (hn : n ≤ ls.length) (h1 : insF A n ≠ []) (h2 : insF B n ≠ []) (h3 : insF A n ≠ insF B n) : mrgTo ls A B (ls.length + 1) = none :=
  mrgTo_none (i := n) (by simp only [mrgAt, if_pos (And.intro h1 (And.intro h2 h3))]) _ (by omega)
theorem mrgTo_bd {ls : List ByteArray} {A B : List Chg} {n : Nat} {out : List ByteArray} (h : mrgTo ls A B n = some out) : out.length ≤ n + A.length + B.length := by
  have h1 := mrgTo_len ls A B n out h
  have h2 := insN_le A n; have h3 := insN_le B n
  omega
theorem insF_shrt {cs : List Chg} {i : Int} (h : ∀ c ∈ cs, c.t.size ≤ 1048576) : Shrt (insF cs i) := by
  intro x hx
  obtain ⟨c, hc, rfl, _⟩ := insF_from hx
  exact h c hc
theorem diffF_shrt {i : Nat} {xs ys : List ByteArray} (h1 : Shrt xs) (h2 : Shrt ys) : ∀ c ∈ diffF i xs ys, c.t.size ≤ 1048576 := by
  intro c hc
  rcases diffF_txt i xs ys c hc with h | h
  · exact h1 _ h
  · exact h2 _ h
theorem Shrt.app {xs ys : List ByteArray} (h1 : Shrt xs) (h2 : Shrt ys) : Shrt (xs ++ ys) := by
  intro x hx
  rcases List.mem_append.1 hx with h | h
  · exact h1 _ h
  · exact h2 _ h
end
open Go.RowKit
/-- What both sides hold when the three texts are whole. -/
theorem mergeF_ok {s a b : ByteArray} (h1 : textB s = true) (h2 : textB a = true) (h3 : textB b = true) :
    mergeF s a b = (match mrgTo (linesF s) (diffF 0 (linesF s) (linesF a)) (diffF 0 (linesF s) (linesF b)) ((linesF s).length + 1) with | none => (mkS [], 6) | some x => joinF x) := by
  unfold mergeF; rw [h1, h2, h3]; rfl
theorem mergeF_bad {s a b : ByteArray} (h : (textB s && textB a && textB b) = false) : mergeF s a b = (mkS [], 1) := by
  unfold mergeF; rw [h]; rfl
theorem shrt_lines {s : ByteArray} (hs : s.size ≤ 1048576) : Shrt (linesF s) := by
  rcases line_size (s := s) with h | h
  · exact h
  · exact absurd hs h
set_option maxHeartbeats 1000000 in
theorem c_iMerge_bad (s a b : ByteArray) (w : World) (hs : s.size ≤ 1048576) (ha : a.size ≤ 1048576) (hb : b.size ≤ 1048576) (h : (textB s && textB a && textB b) = false) :
    Calls Tryd.prog 9 #[.string s, .string a, .string b] w fun e w' => e = .returned (.tuple #[.string (mkS []), .int .i64 1]) ∧ Below w.heap.size w w' := by
  cases h1 : textB s
  · have HA := hide h1; clear h1 h
    go_enter Tryd.func9, Tryd.ntmps9
    go_wp2_with fail
    refine (c_isText s _ hs).mono ?_; rintro e w1 ⟨rfl, rfl⟩; rw [HA.out]
    go_wp2
    go_ret2
    exact ⟨rfl, Below.refl _ _⟩
  · cases h2 : textB a
    · have HA := hide h1; have HT := hide h2; clear h1 h2 h
      go_enter Tryd.func9, Tryd.ntmps9
      go_wp2_with fail
      refine (c_isText s _ hs).mono ?_; rintro e w1 ⟨rfl, rfl⟩; rw [HA.out]
      go_wp2_with fail
      refine (c_isText a _ ha).mono ?_; rintro e w1 ⟨rfl, rfl⟩; rw [HT.out]
      go_wp2
      go_ret2
      exact ⟨rfl, Below.refl _ _⟩
    · have h3 : textB b = false := by rw [h1, h2] at h; simpa using h
      have HA := hide h1; have HT := hide h2; have HU := hide h3; clear h1 h2 h3 h
      go_enter Tryd.func9, Tryd.ntmps9
      go_wp2_with fail
      refine (c_isText s _ hs).mono ?_; rintro e w1 ⟨rfl, rfl⟩; rw [HA.out]
      go_wp2_with fail
      refine (c_isText a _ ha).mono ?_; rintro e w1 ⟨rfl, rfl⟩; rw [HT.out]
      go_wp2_with fail
      refine (c_isText b _ hb).mono ?_; rintro e w1 ⟨rfl, rfl⟩; rw [HU.out]
      go_wp2
      go_ret2
      exact ⟨rfl, Below.refl _ _⟩
end Go.Proofs.YtpmflkoepnanoaaDoor
