/- Contracts: a frame of a store that is loaded; both sides. -/
import Derived.Test.YtopgjanpbfnlnaaGreatIj
import Derived.Test.YtopgjanpbfnlnaaGreatGc
import Derived.StillTailTactics
namespace Go.Proofs.YtopgjanpbfnlnaaGreat
open Go.RowKit
/-- Places that are laid one behind the other. -/
def Steps (t : List Nat) (m : Nat) : Prop := (∀ j, j + 1 < t.length → t.getD j 0 + 2 ≤ t.getD (j + 1) 0) ∧ ∀ j, j < t.length → t.getD j 0 ≤ m
theorem plF_steps {s : ByteArray} : ∀ (k p : Nat) (acc xs : List Int), p ≤ s.size → plF s k p acc = (xs, 0) → ∃ t : List Nat, xs = acc ++ t.map (fun (n : Nat) => (n : Int)) ∧ t.length = k + 1 ∧ t.getD 0 0 = p ∧ Steps t s.size
  | 0, p, acc, xs, hp, h => by
    by_cases he : p = s.size
    · rw [plF_end he] at h
      injection h with h1 h2
      exact ⟨[p], h1.symm, rfl, rfl, fun j hj => by simp at hj, fun j hj => by
        have : j = 0 := by simpa using hj
        subst this; exact hp⟩
    · rw [plF_bad he] at h
      injection h with h1 h2
      exact absurd h2 (by decide)
  | k + 1, p, acc, xs, hp, h => by
    by_cases hc : s.size < p + 2 ∨ s.size < p + 2 + numS s p
    · rw [plF_cut hc] at h
      injection h with h1 h2
      exact absurd h2 (by decide)
    · rw [plF_go hc] at h
      obtain ⟨t, h1, h2, h3, h4, h5⟩ := plF_steps k _ _ _ (by omega) h
      refine ⟨p :: t, ?_, by simp [h2], rfl, fun j hj => ?_, fun j hj => ?_⟩
      · rw [h1]; simp
      · cases j with
        | zero =>
          simp only [List.getD_cons_zero, List.getD_cons_succ]
          rw [h3]; omega
        | succ j =>
          simp only [List.getD_cons_succ]
          exact h4 j (by simp at hj; omega)
      · cases j with
        | zero => exact hp
        | succ j =>
          simp only [List.getD_cons_succ]
          exact h5 j (by simp at hj; omega)
theorem places_steps {s : ByteArray} {ps : List Int} (h : placesF s = (ps, 0)) : ∃ t : List Nat, ps = t.map (fun (n : Nat) => (n : Int)) ∧ t.length = nch (numS s 6) (numS s 4) + 1 ∧ Steps t s.size ∧ (infoF s).2.2 = 0 := by
  unfold placesF at h
  by_cases hi : (infoF s).2.2 = 0
  · rw [if_pos hi] at h
    have h10 := (infoF_ok hi).2.1
    obtain ⟨t, h1, h2, _, h4⟩ := plF_steps _ _ _ _ h10 h
    exact ⟨t, by simpa using h1, h2, h4, hi⟩
  · rw [if_neg hi] at h
    injection h with _ h2
    exact absurd h2 hi
/-- The number of samples of frame k. -/
def lenK (n f k : Nat) : Nat := min f (n - k * f)
/-- The samples of the frame between two places. -/
def loadF (s : ByteArray) (a b m : Nat) : List Int × Int :=
  if (decFrF (s.extract (a + 2) b)).2 ≠ 0 then ([], (decFrF (s.extract (a + 2) b)).2) else if (decFrF (s.extract (a + 2) b)).1.length ≠ m then ([], 9) else decFrF (s.extract (a + 2) b)
def LoR (s : ByteArray) (a b m : Nat) (w : World) (e : Ending) (w' : World) : Prop := ∃ v, e = .returned (.tuple #[v, .int .i64 (loadF s a b m).2]) ∧ OwI 2 w' w.heap.size v (loadF s a b m).1 ∧ Below w.heap.size w w'
theorem LoR.mkE {s : ByteArray} {a b m : Nat} {w w' : World} {c : Int} (h : loadF s a b m = ([], c)) (hb : Below w.heap.size w w') : LoR s a b m w (.returned (.tuple #[.slice none 0 0, .int .i64 c])) w' :=
  ⟨_, by rw [h], by rw [h]; exact OwI.nil_ _ _ _, hb⟩
theorem LoR.mk {s : ByteArray} {a b m : Nat} {w w' : World} {v : Value} {xs : List Int} {c : Int} (h : loadF s a b m = (xs, c)) (ho : OwI 2 w' w.heap.size v xs) (hb : Below w.heap.size w w') : LoR s a b m w (.returned (.tuple #[v, .int .i64 c])) w' :=
  ⟨_, by rw [h], by rw [h]; exact ho, hb⟩
theorem load1 {s : ByteArray} {a b m : Nat} {xs : List Int} {c : Int} (h : decFrF (s.extract (a + 2) b) = (xs, c)) (hc : c ≠ 0) : loadF s a b m = ([], c) := by unfold loadF; rw [h]; exact if_pos hc
theorem load2 {s : ByteArray} {a b m : Nat} {xs : List Int} (h : decFrF (s.extract (a + 2) b) = (xs, 0)) (hm : xs.length ≠ m) : loadF s a b m = ([], 9) := by unfold loadF; rw [h]; simp only; rw [if_neg (by simp), if_pos hm]
theorem load3 {s : ByteArray} {a b m : Nat} {xs : List Int} (h : decFrF (s.extract (a + 2) b) = (xs, 0)) (hm : xs.length = m) : loadF s a b m = (xs, 0) := by unfold loadF; rw [h]; simp only; rw [if_neg (by simp), if_neg (by simpa using hm)]
set_option maxHeartbeats 2000000 in
set_option maxRecDepth 100000 in
theorem c_l30Load (s : ByteArray) (v : Value) (t : List Nat) (n f k a b : Nat) (w : World) (hs : s.size ≤ 1048576) (hr : RdI w v (t.map fun (x : Nat) => (x : Int))) (hst : Steps t s.size) (hk : k + 1 < t.length) (ha : t.getD k 0 = a) (hb : t.getD (k + 1) 0 = b) (hn : n ≤ 4000) (hf : 16 ≤ f ∧ f ≤ 256) (hkn : k * f < n) :
    Calls Tryz.prog 45 #[.string s, v, .int .i64 (n : Int), .int .i64 (f : Int), .int .i64 (k : Int)] w (LoR s a b (lenK n f k) w) := by
  obtain ⟨A, cap, rfl, hl, hc, hx⟩ := hr.open_
  have hab : a + 2 ≤ b := by have := hst.1 k hk; omega
  have hbs : b ≤ s.size := by have := hst.2 (k + 1) hk; omega
  have hta : t[k]? = some a := by rw [← ha, List.getD_eq_getElem?_getD, List.getElem?_eq_getElem (show k < t.length by omega)]; rfl
  have htb : t[k + 1]? = some b := by rw [← hb, List.getD_eq_getElem?_getD, List.getElem?_eq_getElem hk]; rfl
  obtain ⟨B, off, rfl, hB, hca⟩ := hx k (a : Int) (by rw [List.getElem?_map, hta]; rfl)
  obtain ⟨B2, off2, hE, _, hcb⟩ := hx (k + 1) (b : Int) (by rw [List.getElem?_map, htb]; rfl)
  injection hE with hE
  injection hE with h1 h2
  subst h1 h2
  have hlen : (t.map fun (x : Nat) => (x : Int)).length = t.length := by simp
  rw [hlen] at hl
  have HX := hide hx; clear hx
  have HSZ := hide (show (s.extract (a + 2) b).size ≤ 1048576 by rw [ByteArray.size_extract]; omega)
  have hkf : k * f ≤ 4000 := by omega
  have hlk : lenK n f k ≤ 256 := by unfold lenK; omega
  have HLK := hide (show lenK n f k = min f (n - k * f) from rfl)
  obtain ⟨xs, c, hd⟩ : ∃ xs c, decFrF (s.extract (a + 2) b) = (xs, c) := ⟨_, _, rfl⟩
  have HD := hide hd; clear hd hta htb hst ha hb hr
  have a4 : ((k : Int) + 1).toNat = k + 1 := by omega
  have a1 : (k : Int) < (t.length : Int) := by omega
  have a2 : (k : Int) + 1 < (t.length : Int) := by omega
  have a6 : (0 : Int) ≤ (k : Int) + 1 := by omega
  have a7 : IntKind.i64.wrap ((k : Int) + 1) = (k : Int) + 1 := IntWalk.i64_in _ (by omega)
  have a8 : IntKind.i64.wrap ((a : Int) + 2) = (a : Int) + 2 := IntWalk.i64_in _ (by omega)
  obtain ⟨q, hq⟩ : ∃ q, k * f = q := ⟨_, rfl⟩
  have e1 : (k : Int) * (f : Int) = (q : Int) := by rw [← hq]; simp
  have HMN := hide (show (if (f : Int) < (n : Int) - (q : Int) then (f : Int) else (n : Int) - (q : Int)) = ((lenK n f k : Nat) : Int) by
    rw [HLK.out, hq]; rw [hq] at hkn; split <;> omega)
  rw [hq] at hkf hkn
  clear hq
  generalize lenK n f k = m at *
  clear HLK
  go_enter Tryz.func45, Tryz.ntmps45
  go_wp2_with fail
  go_region_with (go_at_call 66; refine (c_sDf _ _ _ HSZ.out HD.out).mono ?_; rintro e w1 ⟨v1, rfl, ho1, hb1⟩)
  all_goals
    obtain ⟨A1, cap1, rfl, _, _, _⟩ := ho1.rd.open_
    have HO1 : Sec (OwI 2 w1 w.heap.size _ _) := hide ho1; have HB1 := hide (undrew hb1); clear ho1 hb1
    by_cases hc0 : c = 0
    · subst hc0
      by_cases hm : xs.length = m
      · have HE := hide (load3 HD.out hm)
        obtain rfl : xs.length = m := hm
        go_wp2_with (go_at_call 49; refine (c_l00Min _ _ _).mono ?_; rw [HMN.out]; rintro e w' ⟨rfl, rfl⟩)
        go_ret2
        exact LoR.mk HE.out HO1.out HB1.out
      · have HE := hide (load2 HD.out hm)
        have hmi : ((xs.length : Int) != (m : Int)) = true := by simp; omega
        go_wp2_with (go_at_call 49; refine (c_l00Min _ _ _).mono ?_; rw [HMN.out]; rintro e w' ⟨rfl, rfl⟩)
        go_ret2
        exact LoR.mkE HE.out HB1.out
    · have HE := hide (load1 (m := m) HD.out hc0)
      have ht : (c != 0) = true := by simpa using hc0
      go_wp2
      go_ret2
      exact LoR.mkE HE.out HB1.out
end Go.Proofs.YtopgjanpbfnlnaaGreat
