/- Contracts: a frame of a store that is loaded; both sides. Contracts: a store's frames: their number, their lengths, and one that is loaded. Contracts: a store that is opened, said plainly; a frame that is loaded; both sides. -/
import Derived.Test.YtpmflkoepnanoaaGreatIj
import Derived.Test.YtpmflkoepnanoaaGreatGa
import Derived.StillTailTactics
import Derived.Test.YtpmflkoepnanoaaGreatAe
import Derived.Deep.RegionHeld3
namespace Go.Proofs.YtpmflkoepnanoaaGreat
section
open Go.RowKit
/-- Places that are laid one behind the other. -/
def Steps (t : List Nat) (m : Nat) : Prop := (∀ j, j + 1 < t.length → t.getD j 0 + 2 ≤ t.getD (j + 1) 0) ∧ ∀ j, j < t.length → t.getD j 0 ≤ m
theorem plF_steps {s : ByteArray} : ∀ (k p : Nat) (acc xs : List Int), p ≤ s.size → plF s k p acc = (xs, 0) → ∃ t : List Nat, xs = acc ++ t.map (fun (n : Nat) => (n : Int)) ∧ t.length = k + 1 ∧ t.getD 0 0 = p ∧ Steps t s.size
  | 0, p, acc, xs, hp, h => by
    by_cases he : p = s.size
    · rw [plF_end he] at h
      injection h with h1 h2
      exact ⟨[p], h1.symm, rfl, rfl, fun j hj => by simp at hj, fun j hj => by
        have : j = 0 := by simpa using hj
        subst this; exact hp⟩
    · rw [plF_bad he] at h
      injection h with h1 h2
      exact absurd h2 (by decide)
  | k + 1, p, acc, xs, hp, h => by
    by_cases hc : s.size < p + 2 ∨ s.size < p + 2 + numS s p
    · rw [plF_cut hc] at h
      injection h with h1 h2
      exact absurd h2 (by decide)
    · rw [plF_go hc] at h
      obtain ⟨t, h1, h2, h3, h4, h5⟩ := plF_steps k _ _ _ (by omega) h
      refine ⟨p :: t, ?_, by simp [h2], rfl, fun j hj => ?_, fun j hj => ?_⟩
      · rw [h1]; simp
      · cases j with
        | zero =>
          simp only [List.getD_cons_zero, List.getD_cons_succ]
          rw [h3]; omega
        | succ j =>
          simp only [List.getD_cons_succ]
          exact h4 j (by simp at hj; omega)
      · cases j with
        | zero => exact hp
        | succ j =>
          simp only [List.getD_cons_succ]
          exact h5 j (by simp at hj; omega)
theorem places_steps {s : ByteArray} {ps : List Int} (h : placesF s = (ps, 0)) : ∃ t : List Nat, ps = t.map (fun (n : Nat) => (n : Int)) ∧ t.length = nch (numS s 6) (numS s 4) + 1 ∧ Steps t s.size ∧ (infoF s).2.2 = 0 := by
  unfold placesF at h
  by_cases hi : (infoF s).2.2 = 0
  · rw [if_pos hi] at h
    have h10 := (infoF_ok hi).2.1
    obtain ⟨t, h1, h2, _, h4⟩ := plF_steps _ _ _ _ h10 h
    exact ⟨t, by simpa using h1, h2, h4, hi⟩
  · rw [if_neg hi] at h
    injection h with _ h2
    exact absurd h2 hi
/-- The number of samples of frame k. -/
def lenK (n f k : Nat) : Nat := min f (n - k * f)
/-- The samples of the frame between two places. -/
def loadF (s : ByteArray) (a b m : Nat) : List Int × Int :=
  if (decFrF (s.extract (a + 2) b)).2 ≠ 0 then ([], (decFrF (s.extract (a + 2) b)).2) else if (decFrF (s.extract (a + 2) b)).1.length ≠ m then ([], 9) else decFrF (s.extract (a + 2) b)
def LoR (s : ByteArray) (a b m : Nat) (w : World) (e : Ending) (w' : World) : Prop := ∃ v, e = .returned (.tuple #[v, .int .i64 (loadF s a b m).2]) ∧ OwI 2 w' w.heap.size v (loadF s a b m).1 ∧ Below w.heap.size w w'
theorem LoR.mkE {s : ByteArray} {a b m : Nat} {w w' : World} {c : Int} (h : loadF s a b m = ([], c)) (hb : Below w.heap.size w w') : LoR s a b m w (.returned (.tuple #[.slice none 0 0, .int .i64 c])) w' :=
  ⟨_, by rw [h], by rw [h]; exact OwI.nil_ _ _ _, hb⟩
theorem LoR.mk {s : ByteArray} {a b m : Nat} {w w' : World} {v : Value} {xs : List Int} {c : Int} (h : loadF s a b m = (xs, c)) (ho : OwI 2 w' w.heap.size v xs) (hb : Below w.heap.size w w') : LoR s a b m w (.returned (.tuple #[v, .int .i64 c])) w' :=
  ⟨_, by rw [h], by rw [h]; exact ho, hb⟩
theorem load1 {s : ByteArray} {a b m : Nat} {xs : List Int} {c : Int} (h : decFrF (s.extract (a + 2) b) = (xs, c)) (hc : c ≠ 0) : loadF s a b m = ([], c) := by unfold loadF; rw [h]; exact if_pos hc
theorem load2 {s : ByteArray} {a b m : Nat} {xs : List Int} (h : decFrF (s.extract (a + 2) b) = (xs, 0)) (hm : xs.length ≠ m) : loadF s a b m = ([], 9) := by unfold loadF; rw [h]; simp only; rw [if_neg (by simp), if_pos hm]
theorem load3 {s : ByteArray} {a b m : Nat} {xs : List Int} (h : decFrF (s.extract (a + 2) b) = (xs, 0)) (hm : xs.length = m) : loadF s a b m = (xs, 0) := by unfold loadF; rw [h]; simp only; rw [if_neg (by simp), if_neg (by simpa using hm)]
set_option maxHeartbeats 2000000 in
set_option maxRecDepth 100000 in
theorem c_l30Load (s : ByteArray) (v : Value) (t : List Nat) (n f k a b : Nat) (w : World) (hs : s.size ≤ 1048576) (hr : RdI w v (t.map fun (x : Nat) => (x : Int))) (hst : Steps t s.size) (hk : k + 1 < t.length) (ha : t.getD k 0 = a) (hb : t.getD (k + 1) 0 = b) (hn : n ≤ 4000) (hf : 16 ≤ f ∧ f ≤ 256) (hkn : k * f < n) :
    Calls Tryz.prog 65 #[.string s, v, .int .i64 (n : Int), .int .i64 (f : Int), .int .i64 (k : Int)] w (LoR s a b (lenK n f k) w) := by
  obtain ⟨A, cap, rfl, hl, hc, hx⟩ := hr.open_
  have hab : a + 2 ≤ b := by have := hst.1 k hk; omega
  have hbs : b ≤ s.size := by have := hst.2 (k + 1) hk; omega
  have hta : t[k]? = some a := by rw [← ha, List.getD_eq_getElem?_getD, List.getElem?_eq_getElem (show k < t.length by omega)]; rfl
  have htb : t[k + 1]? = some b := by rw [← hb, List.getD_eq_getElem?_getD, List.getElem?_eq_getElem hk]; rfl
  obtain ⟨B, off, rfl, hB, hca⟩ := hx k (a : Int) (by rw [List.getElem?_map, hta]; rfl)
  obtain ⟨B2, off2, hE, _, hcb⟩ := hx (k + 1) (b : Int) (by rw [List.getElem?_map, htb]; rfl)
  injection hE with hE
  injection hE with h1 h2
  subst h1 h2
  have hlen : (t.map fun (x : Nat) => (x : Int)).length = t.length := by simp
  rw [hlen] at hl
  have HX := hide hx; clear hx
  have HSZ := hide (show (s.extract (a + 2) b).size ≤ 1048576 by rw [ByteArray.size_extract]; omega)
  have hkf : k * f ≤ 4000 := by omega
  have hlk : lenK n f k ≤ 256 := by unfold lenK; omega
  have HLK := hide (show lenK n f k = min f (n - k * f) from rfl)
  obtain ⟨xs, c, hd⟩ : ∃ xs c, decFrF (s.extract (a + 2) b) = (xs, c) := ⟨_, _, rfl⟩
  have HD := hide hd; clear hd hta htb hst ha hb hr
  have a4 : ((k : Int) + 1).toNat = k + 1 := by omega
  have a1 : (k : Int) < (t.length : Int) := by omega
  have a2 : (k : Int) + 1 < (t.length : Int) := by omega
  have a6 : (0 : Int) ≤ (k : Int) + 1 := by omega
  have a7 : IntKind.i64.wrap ((k : Int) + 1) = (k : Int) + 1 := IntWalk.i64_in _ (by omega)
  have a8 : IntKind.i64.wrap ((a : Int) + 2) = (a : Int) + 2 := IntWalk.i64_in _ (by omega)
  obtain ⟨q, hq⟩ : ∃ q, k * f = q := ⟨_, rfl⟩
  have e1 : (k : Int) * (f : Int) = (q : Int) := by rw [← hq]; simp
  have HMN := hide (show (if (f : Int) < (n : Int) - (q : Int) then (f : Int) else (n : Int) - (q : Int)) = ((lenK n f k : Nat) : Int) by
    rw [HLK.out, hq]; rw [hq] at hkn; split <;> omega)
  rw [hq] at hkf hkn
  clear hq
  generalize lenK n f k = m at *
  clear HLK
  go_enter Tryz.func65, Tryz.ntmps65
  go_wp2_with fail
  go_region_with (go_at_call 88; refine (c_sDf _ _ _ HSZ.out HD.out).mono ?_; rintro e w1 ⟨v1, rfl, ho1, hb1⟩)
  all_goals
    obtain ⟨A1, cap1, rfl, _, _, _⟩ := ho1.rd.open_
    have HO1 : Sec (OwI 2 w1 w.heap.size _ _) := hide ho1; have HB1 := hide (undrew hb1); clear ho1 hb1
    by_cases hc0 : c = 0
    · subst hc0
      by_cases hm : xs.length = m
      · have HE := hide (load3 HD.out hm)
        obtain rfl : xs.length = m := hm
        go_wp2_with (go_at_call 55; refine (c_l00Min _ _ _).mono ?_; rw [HMN.out]; rintro e w' ⟨rfl, rfl⟩)
        go_ret2
        exact LoR.mk HE.out HO1.out HB1.out
      · have HE := hide (load2 HD.out hm)
        have hmi : ((xs.length : Int) != (m : Int)) = true := by simp; omega
        go_wp2_with (go_at_call 55; refine (c_l00Min _ _ _).mono ?_; rw [HMN.out]; rintro e w' ⟨rfl, rfl⟩)
        go_ret2
        exact LoR.mkE HE.out HB1.out
    · have HE := hide (load1 (m := m) HD.out hc0)
      have ht : (c != 0) = true := by simpa using hc0
      go_wp2
      go_ret2
      exact LoR.mkE HE.out HB1.out
end
section
open Go.RowKit
/-- A store as a value. -/
def stV (s : ByteArray) (n f : Nat) (v : Value) : Value := .agg #[.string s, .int .i64 (n : Int), .int .i64 (f : Int), v]
set_option maxHeartbeats 1000000 in
set_option maxRecDepth 100000 in
theorem c_count (s : ByteArray) (n f : Nat) (v : Value) (ps : List Int) (w : World) (hr : RdI w v ps) (hl : ps.length ≤ 70000) : Calls Tryz.prog 35 #[stV s n f v] w fun e w' => e = .returned (.int .i64 ((ps.length : Int) - 1)) ∧ Below w.heap.size w w' := by
  obtain ⟨A, cap, rfl, hlc, hc, hx⟩ := hr.open_
  have HR := hide hr; clear hr hx
  unfold stV
  go_enter Tryz.func35, Tryz.ntmps35
  go_wp2_with fail
  refine (c_size _ ps _ (HR.out.below ((Below.refl _ _).alloc (Nat.le_refl _) _))).mono ?_; rintro e w' ⟨rfl, rfl⟩
  go_wp2
  go_ret
  exact ⟨rfl, (Below.refl _ _).alloc (Nat.le_refl _) _⟩
set_option maxHeartbeats 1000000 in
set_option maxRecDepth 100000 in
theorem c_length (s : ByteArray) (n f k : Nat) (v : Value) (ps : List Int) (w : World) (hr : RdI w v ps) (hn : n ≤ 4000) (hkn : k * f < n) : Calls Tryz.prog 41 #[stV s n f v, .int .i64 (k : Int)] w fun e w' => e = .returned (.int .i64 ((lenK n f k : Nat) : Int)) ∧ Below w.heap.size w w' := by
  obtain ⟨A, cap, rfl, hlc, hc, hx⟩ := hr.open_
  clear hr hx
  obtain ⟨q, hq⟩ : ∃ q, k * f = q := ⟨_, rfl⟩
  have e1 : (k : Int) * (f : Int) = (q : Int) := by rw [← hq]; simp
  have HMN := hide (show lenK n f k = min f (n - q) by unfold lenK; rw [hq])
  rw [hq] at hkn
  clear hq
  unfold stV
  go_enter Tryz.func41, Tryz.ntmps41
  go_wp2
  go_ret
  exact ⟨ret_int (by rw [HMN.out]; omega), (Below.refl _ _).alloc (Nat.le_refl _) _⟩
set_option maxHeartbeats 2000000 in
set_option maxRecDepth 100000 in
theorem c_load (s : ByteArray) (v : Value) (t : List Nat) (n f k a b : Nat) (w : World) (hs : s.size ≤ 1048576) (hr : RdI w v (t.map fun (x : Nat) => (x : Int))) (hst : Steps t s.size) (hk : k + 1 < t.length) (ha : t.getD k 0 = a) (hb : t.getD (k + 1) 0 = b) (hn : n ≤ 4000) (hf : 16 ≤ f ∧ f ≤ 256) (hkn : k * f < n) :
    Calls Tryz.prog 36 #[stV s n f v, .int .i64 (k : Int)] w (LoR s a b (lenK n f k) w) := by
  have HR := hide hr
  obtain ⟨A, cap, rfl, hl, hc, hx⟩ := hr.open_
  have hab : a + 2 ≤ b := by have := hst.1 k hk; omega
  have hbs : b ≤ s.size := by have := hst.2 (k + 1) hk; omega
  have hta : t[k]? = some a := by rw [← ha, List.getD_eq_getElem?_getD, List.getElem?_eq_getElem (show k < t.length by omega)]; rfl
  have htb : t[k + 1]? = some b := by rw [← hb, List.getD_eq_getElem?_getD, List.getElem?_eq_getElem hk]; rfl
  obtain ⟨B, off, rfl, hB, hca0⟩ := hx k (a : Int) (by rw [List.getElem?_map, hta]; rfl)
  obtain ⟨B2, off2, hE, _, hcb0⟩ := hx (k + 1) (b : Int) (by rw [List.getElem?_map, htb]; rfl)
  injection hE with hE
  injection hE with h1 h2
  subst h1 h2
  have hlen : (t.map fun (x : Nat) => (x : Int)).length = t.length := by simp
  rw [hlen] at hl
  rw [hlen] at HR
  rw [hlen]
  have hal := (Below.refl w.heap.size w).alloc (Nat.le_refl _) (.cells #[.string s, .int .i64 (n : Int), .int .i64 (f : Int), .slice (some ⟨B, off, none⟩) t.length cap] 50)
  have hca := (hal.cell hB).trans hca0
  have hcb := (hal.cell hB).trans hcb0
  have HAL := hide hal
  have HSZ := hide (show (s.extract (a + 2) b).size ≤ 1048576 by rw [ByteArray.size_extract]; omega)
  have hkf : k * f ≤ 4000 := by omega
  have hlk : lenK n f k ≤ 256 := by unfold lenK; omega
  obtain ⟨xs, c, hd⟩ : ∃ xs c, decFrF (s.extract (a + 2) b) = (xs, c) := ⟨_, _, rfl⟩
  have HD := hide hd
  have HST := hide hst
  have HLN := hide (fun w h => c_length s n f k (.slice (some ⟨B, off, none⟩) t.length cap) (t.map fun (x : Nat) => (x : Int)) w h hn hkn)
  clear hd hta htb hst ha hb hr hal hx hca0 hcb0 hlen
  have a4 : ((k : Int) + 1).toNat = k + 1 := by omega
  have a1 : (k : Int) < (t.length : Int) := by omega
  have a2 : (k : Int) + 1 < (t.length : Int) := by omega
  have a6 : (0 : Int) ≤ (k : Int) + 1 := by omega
  have a7 : IntKind.i64.wrap ((k : Int) + 1) = (k : Int) + 1 := IntWalk.i64_in _ (by omega)
  have a8 : IntKind.i64.wrap ((a : Int) + 2) = (a : Int) + 2 := IntWalk.i64_in _ (by omega)
  have a9 : (0 : Int) ≤ (a : Int) + 2 := by omega
  have a10 : (a : Int) + 2 ≤ (b : Int) := by omega
  have a11 : (b : Int) ≤ (s.size : Int) := by omega
  have a12 : ((a : Int) + 2).toNat = a + 2 := by omega
  generalize lenK n f k = m at *
  unfold stV
  go_enter Tryz.func36, Tryz.ntmps36
  go_wp2_with fail
  go_region_held3 (fun w' => w'.cell? ⟨w.heap.size, 0, none⟩ = some (.string s) ∧ w'.cell? ⟨w.heap.size, 3, none⟩ = some (.slice (some ⟨B, off, none⟩) t.length cap) ∧ w'.cell? ⟨B, off + k, none⟩ = some (.int .i64 (a : Int)) ∧ w'.cell? ⟨B, off + (k + 1), none⟩ = some (.int .i64 (b : Int))) (first | go_keep | (refine ⟨(hb1.cell ?_).trans ?_, (hb1.cell ?_).trans ?_, (hb1.cell ?_).trans ?_, (hb1.cell ?_).trans ?_⟩ <;> first | assumption | (simp [*]; done) | (simp; omega))) (first | (go_at_call 52; refine (c_iDf _ _ _ HSZ.out HD.out).mono ?_; rintro e w1 ⟨v1, rfl, ho1, hb1⟩))
  have hb2 := undrew hb1
  have HO1 : Sec (OwI 2 w1 (w.heap.size + 1) v1 xs) := hide (by have := ho1; simpa using this)
  have hbk := (Bk.born w 50 #[.string s, .int .i64 (n : Int), .int .i64 (f : Int), .slice (some ⟨B, off, none⟩) t.length cap]).below hb2 (by simp)
  have HRD := hide ((HR.out.below HAL.out).below hb2)
  have HB2 := hide (below_of_alloc hb2)
  have k0 := hbk.cell 0; have k1 := hbk.cell 1; have k2 := hbk.cell 2; have k3 := hbk.cell 3
  simp at k0 k1 k2 k3
  have HBK := hide hbk
  have hsz1 : w.heap.size + 1 ≤ w1.heap.size := by have := hb2.size; simpa using this
  clear hb1 hb2 ho1 hbk hca hcb HAL
  by_cases hc0 : c = 0
  · subst hc0
    obtain ⟨A1, cap1, rfl, _, _, _⟩ := HO1.out.rd.open_
    by_cases hm : xs.length = m
    · have HE := hide (load3 HD.out hm)
      obtain rfl : xs.length = m := hm
      go_wp2_with fail
      go_region_held3 (fun w' => w'.cell? ⟨w.heap.size, 0, none⟩ = some (.string s) ∧ w'.cell? ⟨w.heap.size, 1, none⟩ = some (.int .i64 (n : Int)) ∧ w'.cell? ⟨w.heap.size, 2, none⟩ = some (.int .i64 (f : Int)) ∧ w'.cell? ⟨w.heap.size, 3, none⟩ = some (.slice (some ⟨B, off, none⟩) t.length cap)) (first | go_keep | (refine ⟨(hb3.cell ?_).trans ?_, (hb3.cell ?_).trans ?_, (hb3.cell ?_).trans ?_, (hb3.cell ?_).trans ?_⟩ <;> first | assumption | (simp [*]; done) | (simp; omega))) (first | (go_at_call 41; refine (HLN.out _ (by exact HRD.out)).mono ?_; rintro e w2 ⟨rfl, hb3⟩) | (go_at_call 27; refine (c_size _ xs _ (by first | exact HO1.out.rd | exact RdI.below (show RdI w1.drew _ _ from HO1.out.rd) hb3)).mono ?_; rintro e w' ⟨rfl, rfl⟩))
      have HB3 := hide (HB2.out.trans ((undrew hb3).mono (by omega)))
      have HO3 : Sec (OwI 2 w2 (w.heap.size + 1) _ xs) := hide (own_all (show OwI _ w1.drew _ _ _ from HO1.out) hb3)
      clear hb3
      go_wp2
      go_ret2
      exact LoR.mk HE.out (HO3.out.more (by omega)) HB3.out
    · have HE := hide (load2 HD.out hm)
      have hmi : ((xs.length : Int) != (m : Int)) = true := by simp; omega
      go_wp2_with fail
      go_region_held3 (fun w' => w'.cell? ⟨w.heap.size, 0, none⟩ = some (.string s) ∧ w'.cell? ⟨w.heap.size, 1, none⟩ = some (.int .i64 (n : Int)) ∧ w'.cell? ⟨w.heap.size, 2, none⟩ = some (.int .i64 (f : Int)) ∧ w'.cell? ⟨w.heap.size, 3, none⟩ = some (.slice (some ⟨B, off, none⟩) t.length cap)) (first | go_keep | (refine ⟨(hb3.cell ?_).trans ?_, (hb3.cell ?_).trans ?_, (hb3.cell ?_).trans ?_, (hb3.cell ?_).trans ?_⟩ <;> first | assumption | (simp [*]; done) | (simp; omega))) (first | (go_at_call 41; refine (HLN.out _ (by exact HRD.out)).mono ?_; rintro e w2 ⟨rfl, hb3⟩) | (go_at_call 27; refine (c_size _ xs _ (by first | exact HO1.out.rd | exact RdI.below (show RdI w1.drew _ _ from HO1.out.rd) hb3)).mono ?_; rintro e w' ⟨rfl, rfl⟩))
      have HB3 := hide (HB2.out.trans ((undrew hb3).mono (by omega)))
      clear hb3
      go_wp2
      go_ret2
      exact LoR.mkE HE.out HB3.out
  · have HE := hide (load1 (m := m) HD.out hc0)
    have ht : (c == 0) = false := by simpa using hc0
    have ht2 : (c != 0) = true := by simpa using hc0
    clear hc0
    go_wp2_with fail
    go_quiet (fail)
    go_wp2
    go_ret2
    exact LoR.mkE HE.out (below_drewN HB2.out _)
end
open Go.RowKit
/-- A slice of the call's own, and a code. -/
def SlR (p : List Int × Int) (w : World) (e : Ending) (w' : World) : Prop := ∃ v, e = .returned (.tuple #[v, .int .i64 p.2]) ∧ OwI 2 w' w.heap.size v p.1 ∧ Below w.heap.size w w'
theorem SlR.mkE {p : List Int × Int} {w w' : World} {c : Int} (h : p = ([], c)) (hb : Below w.heap.size w w') : SlR p w (.returned (.tuple #[.slice none 0 0, .int .i64 c])) w' := ⟨_, by rw [h], by rw [h]; exact OwI.nil_ _ _ _, hb⟩
theorem SlR.mk {p : List Int × Int} {w w' : World} {v : Value} {xs : List Int} {c : Int} (h : p = (xs, c)) (ho : OwI 2 w' w.heap.size v xs) (hb : Below w.heap.size w w') : SlR p w (.returned (.tuple #[v, .int .i64 c])) w' := ⟨_, by rw [h], by rw [h]; exact ho, hb⟩
theorem places_ok {s : ByteArray} {ps : List Int} (h : placesF s = (ps, 0)) (w : World) (hs : s.size ≤ 1073741824) : Calls Tryz.prog 44 #[.string s] w fun e w' =>
    ∃ v, e = .returned (.tuple #[v, .int .i64 (numS s 6 : Nat), .int .i64 (numS s 4 : Nat), .int .i64 0]) ∧ OwI 2 w' w.heap.size v ps ∧ Below w.heap.size w w' := by
  refine (c_l30Places s w hs).mono ?_
  rintro e w' ⟨v, rfl, ho, hb⟩
  obtain ⟨t, _, _, _, h0⟩ := places_steps h
  rw [h] at ho ⊢
  refine ⟨v, ?_, ho, hb⟩
  rw [(infoF_ok h0).1]
  rfl
theorem places_err {s : ByteArray} {ps : List Int} {c : Int} (h : placesF s = (ps, c)) (hc : c ≠ 0) (w : World) (hs : s.size ≤ 1073741824) : Calls Tryz.prog 44 #[.string s] w fun e w' =>
    ∃ v, e = .returned (.tuple #[v, .int .i64 0, .int .i64 0, .int .i64 c]) ∧ Below w.heap.size w w' := by
  refine (c_l30Places s w hs).mono ?_
  rintro e w' ⟨v, rfl, ho, hb⟩
  rw [h]
  refine ⟨v, ?_, hb⟩
  simp only [hc, if_false]
theorem open_ok {s : ByteArray} {ps : List Int} (h : placesF s = (ps, 0)) (w : World) (hs : s.size ≤ 1073741824) : Calls Tryz.prog 29 #[.string s] w fun e w' =>
    ∃ A cap, e = .returned (.tuple #[.agg #[.string s, .int .i64 (numS s 6 : Nat), .int .i64 (numS s 4 : Nat), .slice A ps.length cap], .int .i64 0]) ∧ OwI 2 w' w.heap.size (.slice A ps.length cap) ps ∧ Below w.heap.size w w' := by
  refine (c_openStore s w hs).mono ?_
  rintro e w' ⟨v, t, n, f, c, rfl, hc, hok, ho, hb⟩
  obtain ⟨_, _, _, _, h0⟩ := places_steps h
  rw [h] at hc ho
  obtain ⟨rfl, rfl, rfl⟩ := hok hc
  subst hc
  obtain ⟨A, cap, rfl, _, _, _⟩ := ho.rd.open_
  refine ⟨A, cap, ?_, ho, hb⟩
  rw [(infoF_ok h0).1]
theorem open_err {s : ByteArray} {ps : List Int} {c : Int} (h : placesF s = (ps, c)) (hc : c ≠ 0) (w : World) (hs : s.size ≤ 1073741824) : Calls Tryz.prog 29 #[.string s] w fun e w' =>
    ∃ t n f A l cap, e = .returned (.tuple #[.agg #[.string t, .int .i64 n, .int .i64 f, .slice A l cap], .int .i64 c]) ∧ Below w.heap.size w w' := by
  refine (c_openStore s w hs).mono ?_
  rintro e w' ⟨v, t, n, f, c', rfl, hc', _, ho, hb⟩
  rw [h] at hc'
  subst hc'
  obtain ⟨A, cap, rfl, _, _, _⟩ := ho.rd.open_
  exact ⟨t, n, f, A, _, cap, rfl, hb⟩
/-- Place j of a store. -/
def plc (s : ByteArray) (j : Nat) : Nat := ((placesF s).1.getD j 0).toNat
/-- Frame j of a store. -/
def frK (s : ByteArray) (j : Nat) : List Int × Int := loadF s (plc s j) (plc s (j + 1)) (lenK (numS s 6) (numS s 4) j)
def cntF (s : ByteArray) : Nat := nch (numS s 6) (numS s 4)
/-- What is known of a store that opens. -/
structure Opn (s : ByteArray) (t : List Nat) : Prop where
  places : placesF s = (t.map (fun (n : Nat) => (n : Int)), 0)
  len : t.length = cntF s + 1
  steps : Steps t s.size
  n4 : numS s 6 ≤ 4000
  f1 : 16 ≤ numS s 4
  f2 : numS s 4 ≤ 256
  plcs : ∀ j, plc s j = t.getD j 0
  size : s.size ≤ 1048576
theorem opn_of {s : ByteArray} {ps : List Int} (h : placesF s = (ps, 0)) (hs : s.size ≤ 1048576) : ∃ t, ps = t.map (fun (n : Nat) => (n : Int)) ∧ Opn s t := by
  obtain ⟨t, rfl, h2, h3, h4⟩ := places_steps h
  have hi := infoF_ok h4
  refine ⟨t, rfl, h, h2, h3, hi.2.2.1, hi.2.2.2.1, hi.2.2.2.2, fun j => ?_, hs⟩
  unfold plc
  rw [h]
  simp only [List.getD_eq_getElem?_getD, List.getElem?_map]
  cases t[j]? <;> rfl
theorem Opn.lt {s : ByteArray} {t : List Nat} (h : Opn s t) {j : Nat} (hj : j < cntF s) : j + 1 < t.length ∧ j * numS s 4 < numS s 6 := ⟨by rw [h.len]; omega, (nch_lt h.f1).1 hj⟩
theorem Opn.cnt {s : ByteArray} {t : List Nat} (h : Opn s t) : cntF s ≤ 250 := by
  unfold cntF nch
  have h1 := h.n4; have h2 := h.f1
  apply Nat.le_of_lt_succ
  rw [Nat.div_lt_iff_lt_mul (by omega)]
  generalize numS s 4 = f at *
  generalize numS s 6 = n at *
  have : 251 * 16 ≤ 251 * f := Nat.mul_le_mul_left _ h2
  omega
theorem sLoad {s : ByteArray} {t : List Nat} (h : Opn s t) {j : Nat} (hj : j < cntF s) (v : Value) (w : World) (hr : RdI w v (t.map fun (x : Nat) => (x : Int))) :
    Calls Tryz.prog 65 #[.string s, v, .int .i64 (numS s 6 : Nat), .int .i64 (numS s 4 : Nat), .int .i64 (j : Int)] w (SlR (frK s j) w) := by
  obtain ⟨h1, h2⟩ := h.lt hj
  have := c_l30Load s v t (numS s 6) (numS s 4) j (plc s j) (plc s (j + 1)) w h.size hr h.steps h1 (h.plcs j).symm (h.plcs (j + 1)).symm h.n4 ⟨h.f1, h.f2⟩ h2
  exact this
theorem iLoad {s : ByteArray} {t : List Nat} (h : Opn s t) {j : Nat} (hj : j < cntF s) (v : Value) (w : World) (hr : RdI w v (t.map fun (x : Nat) => (x : Int))) :
    Calls Tryz.prog 36 #[stV s (numS s 6) (numS s 4) v, .int .i64 (j : Int)] w (SlR (frK s j) w) := by
  obtain ⟨h1, h2⟩ := h.lt hj
  have := c_load s v t (numS s 6) (numS s 4) j (plc s j) (plc s (j + 1)) w h.size hr h.steps h1 (h.plcs j).symm (h.plcs (j + 1)).symm h.n4 ⟨h.f1, h.f2⟩ h2
  exact this
theorem iCount {s : ByteArray} {t : List Nat} (h : Opn s t) (v : Value) (w : World) (hr : RdI w v (t.map fun (x : Nat) => (x : Int))) :
    Calls Tryz.prog 35 #[stV s (numS s 6) (numS s 4) v] w fun e w' => e = .returned (.int .i64 (cntF s : Nat)) ∧ Below w.heap.size w w' := by
  have hl : (t.map fun (x : Nat) => (x : Int)).length = cntF s + 1 := by rw [List.length_map]; exact h.len
  have hc := h.cnt
  refine (c_count s (numS s 6) (numS s 4) v _ w hr (by omega)).mono ?_
  rintro e w' ⟨rfl, hb⟩
  exact ⟨ret_int (by omega), hb⟩
theorem iLength {s : ByteArray} {t : List Nat} (h : Opn s t) {j : Nat} (hj : j < cntF s) (v : Value) (w : World) (hr : RdI w v (t.map fun (x : Nat) => (x : Int))) :
    Calls Tryz.prog 41 #[stV s (numS s 6) (numS s 4) v, .int .i64 (j : Int)] w fun e w' => e = .returned (.int .i64 (lenK (numS s 6) (numS s 4) j : Nat)) ∧ Below w.heap.size w w' :=
  c_length s (numS s 6) (numS s 4) j v _ w hr h.n4 (h.lt hj).2
theorem frK_len {s : ByteArray} {j : Nat} : (frK s j).2 = 0 → (frK s j).1.length = lenK (numS s 6) (numS s 4) j := by
  unfold frK loadF
  split
  · rename_i h; intro h2; exact absurd h2 h
  · split
    · intro h2; exact absurd h2 (by decide)
    · rename_i h; intro _; simpa using h
theorem frK_no {s : ByteArray} {j : Nat} : (frK s j).2 ≠ 0 → (frK s j).1 = [] := by
  unfold frK loadF
  split
  · intro _; rfl
  · split
    · intro _; rfl
    · rename_i h _; intro h2; exact absurd h2 (by simpa using h)
def ldFrF (s : ByteArray) (k : Int) : List Int × Int := if (placesF s).2 ≠ 0 then ([], (placesF s).2) else if inB k 0 ((cntF s : Int) - 1) = false then ([], 2) else frK s k.toNat
theorem ldfr1 {s : ByteArray} {k : Int} {ps : List Int} {c : Int} (h : placesF s = (ps, c)) (hc : c ≠ 0) : ldFrF s k = ([], c) := by unfold ldFrF; rw [h]; exact if_pos hc
theorem ldfr2 {s : ByteArray} {k : Int} {ps : List Int} (h : placesF s = (ps, 0)) (hk : inB k 0 ((cntF s : Int) - 1) = false) : ldFrF s k = ([], 2) := by unfold ldFrF; rw [h]; simp only; rw [if_neg (by simp), if_pos hk]
theorem ldfr3 {s : ByteArray} {j : Nat} {ps : List Int} (h : placesF s = (ps, 0)) (hk : j < cntF s) : ldFrF s (j : Int) = frK s j := by
  unfold ldFrF; rw [h]; simp only; rw [if_neg (by simp), if_neg (by rw [inB_true.2 (by omega)]; simp)]; simp
set_option maxHeartbeats 1000000 in
set_option maxRecDepth 100000 in
theorem c_iLoadFrame (s : ByteArray) (k : Int) (w : World) (hs : s.size ≤ 1048576) : Calls Tryz.prog 18 #[.string s, .int .i64 k] w (SlR (ldFrF s k) w) := by
  obtain ⟨ps, c, hp⟩ : ∃ ps c, placesF s = (ps, c) := ⟨_, _, rfl⟩
  by_cases hc : c = 0
  · subst hc
    obtain ⟨t, rfl, HO⟩ := opn_of hp hs
    have HPL := hide (fun w => open_ok hp w (by omega))
    have hlen : (t.map (fun (n : Nat) => (n : Int))).length = cntF s + 1 := by rw [List.length_map]; exact HO.len
    have hcnt := HO.cnt
    have HCO := hide (fun v w h => iCount HO v w h)
    cases hk : inB k 0 ((cntF s : Int) - 1)
    · have HE := hide (ldfr2 hp hk)
      have HOO := hide HO; clear HO hp
      generalize cntF s = C at *
      generalize numS s 6 = n at *
      generalize numS s 4 = f at *
      go_enter Tryz.func18, Tryz.ntmps18
      go_wp2_with fail
      refine (HPL.out _).mono ?_; rintro e w1 ⟨A, cap, rfl, ho1, hb1⟩
      have HB1 := hide hb1; have HO1 := hide ho1; have hsz1 := hb1.size; clear hb1 ho1
      rw [hlen] at HO1 ⊢
      have hal := (Below.refl w1.heap.size w1).alloc (Nat.le_refl _) (.cells #[.string s, .int .i64 (n : Int), .int .i64 (f : Int), .slice A (C + 1) cap] 50)
      have HAL := hide hal; clear hal
      go_wp2_with fail
      refine (HCO.out _ _ (HO1.out.rd.below HAL.out)).mono ?_; rintro e w2 ⟨rfl, hb2⟩
      have HB2 := hide (HB1.out.trans ((HAL.out.trans (hb2.mono HAL.out.size)).mono hsz1)); clear hb2
      go_wp2_with (go_at_call 25; refine (c_within _ _ _ _).mono ?_; rintro e w' ⟨rfl, rfl⟩)
      go_ret2
      exact SlR.mkE HE.out HB2.out
    · have hk2 := inB_true.1 hk
      obtain ⟨j, rfl⟩ := Int.eq_ofNat_of_zero_le hk2.1
      have hj : j < cntF s := by omega
      have HE := hide (ldfr3 hp hj)
      have HLO := hide (fun v w h => iLoad HO hj v w h)
      have HOO := hide HO; clear HO hp hk2
      generalize ldFrF s (j : Int) = L at *
      generalize frK s j = K at *
      generalize cntF s = C at *
      generalize numS s 6 = n at *
      generalize numS s 4 = f at *
      go_enter Tryz.func18, Tryz.ntmps18
      go_wp2_with fail
      refine (HPL.out _).mono ?_; rintro e w1 ⟨A, cap, rfl, ho1, hb1⟩
      have HB1 := hide hb1; have HO1 := hide ho1; have hsz1 := hb1.size; clear hb1 ho1
      rw [hlen] at HO1 ⊢
      have hal := (Below.refl w1.heap.size w1).alloc (Nat.le_refl _) (.cells #[.string s, .int .i64 (n : Int), .int .i64 (f : Int), .slice A (C + 1) cap] 50)
      have HAL := hide hal; clear hal
      go_wp2_with fail
      refine (HCO.out _ _ (HO1.out.rd.below HAL.out)).mono ?_; rintro e w2 ⟨rfl, hb2⟩
      have hbk := (Bk.born w1 50 #[.string s, .int .i64 (n : Int), .int .i64 (f : Int), .slice A (C + 1) cap]).below hb2 (by simp)
      have k0 := hbk.cell 0; have k1 := hbk.cell 1; have k2 := hbk.cell 2; have k3 := hbk.cell 3
      simp at k0 k1 k2 k3
      have HB2 := hide (HB1.out.trans ((HAL.out.trans (hb2.mono HAL.out.size)).mono hsz1)); have HRD := hide ((HO1.out.rd.below HAL.out).below hb2); clear hb2 hbk
      go_wp2_with fail
      refine (c_within _ _ _ _).mono ?_; rintro e w' ⟨rfl, rfl⟩
      go_wp2_with fail
      refine (HLO.out _ _ HRD.out).mono ?_; rintro e w3 ⟨v3, rfl, ho3, hb3⟩
      have HB3 := hide (bthen HB2.out HB2.out.size hb3); have HO3 := hide (ho3.more HB2.out.size); clear ho3 hb3
      go_wp2
      go_ret2
      rw [HE.out]
      exact SlR.mk rfl HO3.out HB3.out
  · have HE := hide (ldfr1 (k := k) hp hc)
    have HPL := hide (fun w => open_err hp hc w (by omega))
    have ht : (c != 0) = true := by simpa using hc
    clear hp hc
    go_enter Tryz.func18, Tryz.ntmps18
    go_wp2_with fail
    refine (HPL.out _).mono ?_; rintro e w1 ⟨t, n, f, A, l, cap, rfl, hb1⟩
    have HB1 := hide hb1; have hsz1 := hb1.size; clear hb1
    go_wp2
    go_ret2
    exact SlR.mkE HE.out (HB1.out.alloc hsz1 _)
end Go.Proofs.YtpmflkoepnanoaaGreat
