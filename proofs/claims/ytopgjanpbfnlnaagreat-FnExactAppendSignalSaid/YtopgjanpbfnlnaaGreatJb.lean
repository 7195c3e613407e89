/- Contracts: a store's frames: their number, their lengths, and one that is loaded. -/
import Derived.Test.YtopgjanpbfnlnaaGreatJa
import Derived.Test.YtopgjanpbfnlnaaGreatAe
import Derived.Deep.RegionHeld3
namespace Go.Proofs.YtopgjanpbfnlnaaGreat
open Go.RowKit
/-- A store as a value. -/
def stV (s : ByteArray) (n f : Nat) (v : Value) : Value := .agg #[.string s, .int .i64 (n : Int), .int .i64 (f : Int), v]
set_option maxHeartbeats 1000000 in
set_option maxRecDepth 100000 in
theorem c_count (s : ByteArray) (n f : Nat) (v : Value) (ps : List Int) (w : World) (hr : RdI w v ps) (hl : ps.length ≤ 70000) : Calls Tryz.prog 39 #[stV s n f v] w fun e w' => e = .returned (.int .i64 ((ps.length : Int) - 1)) ∧ Below w.heap.size w w' := by
  obtain ⟨A, cap, rfl, hlc, hc, hx⟩ := hr.open_
  have HR := hide hr; clear hr hx
  unfold stV
  go_enter Tryz.func39, Tryz.ntmps39
  go_wp2_with fail
  refine (c_size _ ps _ (HR.out.below ((Below.refl _ _).alloc (Nat.le_refl _) _))).mono ?_; rintro e w' ⟨rfl, rfl⟩
  go_wp2
  go_ret
  exact ⟨rfl, (Below.refl _ _).alloc (Nat.le_refl _) _⟩
set_option maxHeartbeats 1000000 in
set_option maxRecDepth 100000 in
theorem c_length (s : ByteArray) (n f k : Nat) (v : Value) (ps : List Int) (w : World) (hr : RdI w v ps) (hn : n ≤ 4000) (hkn : k * f < n) : Calls Tryz.prog 51 #[stV s n f v, .int .i64 (k : Int)] w fun e w' => e = .returned (.int .i64 ((lenK n f k : Nat) : Int)) ∧ Below w.heap.size w w' := by
  obtain ⟨A, cap, rfl, hlc, hc, hx⟩ := hr.open_
  clear hr hx
  obtain ⟨q, hq⟩ : ∃ q, k * f = q := ⟨_, rfl⟩
  have e1 : (k : Int) * (f : Int) = (q : Int) := by rw [← hq]; simp
  have HMN := hide (show lenK n f k = min f (n - q) by unfold lenK; rw [hq])
  rw [hq] at hkn
  clear hq
  unfold stV
  go_enter Tryz.func51, Tryz.ntmps51
  go_wp2
  go_ret
  exact ⟨ret_int (by rw [HMN.out]; omega), (Below.refl _ _).alloc (Nat.le_refl _) _⟩
set_option maxHeartbeats 2000000 in
set_option maxRecDepth 100000 in
theorem c_load (s : ByteArray) (v : Value) (t : List Nat) (n f k a b : Nat) (w : World) (hs : s.size ≤ 1048576) (hr : RdI w v (t.map fun (x : Nat) => (x : Int))) (hst : Steps t s.size) (hk : k + 1 < t.length) (ha : t.getD k 0 = a) (hb : t.getD (k + 1) 0 = b) (hn : n ≤ 4000) (hf : 16 ≤ f ∧ f ≤ 256) (hkn : k * f < n) :
    Calls Tryz.prog 40 #[stV s n f v, .int .i64 (k : Int)] w (LoR s a b (lenK n f k) w) := by
  have HR := hide hr
  obtain ⟨A, cap, rfl, hl, hc, hx⟩ := hr.open_
  have hab : a + 2 ≤ b := by have := hst.1 k hk; omega
  have hbs : b ≤ s.size := by have := hst.2 (k + 1) hk; omega
  have hta : t[k]? = some a := by rw [← ha, List.getD_eq_getElem?_getD, List.getElem?_eq_getElem (show k < t.length by omega)]; rfl
  have htb : t[k + 1]? = some b := by rw [← hb, List.getD_eq_getElem?_getD, List.getElem?_eq_getElem hk]; rfl
  obtain ⟨B, off, rfl, hB, hca0⟩ := hx k (a : Int) (by rw [List.getElem?_map, hta]; rfl)
  obtain ⟨B2, off2, hE, _, hcb0⟩ := hx (k + 1) (b : Int) (by rw [List.getElem?_map, htb]; rfl)
  injection hE with hE
  injection hE with h1 h2
  subst h1 h2
  have hlen : (t.map fun (x : Nat) => (x : Int)).length = t.length := by simp
  rw [hlen] at hl
  rw [hlen] at HR
  rw [hlen]
  have hal := (Below.refl w.heap.size w).alloc (Nat.le_refl _) (.cells #[.string s, .int .i64 (n : Int), .int .i64 (f : Int), .slice (some ⟨B, off, none⟩) t.length cap] 52)
  have hca := (hal.cell hB).trans hca0
  have hcb := (hal.cell hB).trans hcb0
  have HAL := hide hal
  have HSZ := hide (show (s.extract (a + 2) b).size ≤ 1048576 by rw [ByteArray.size_extract]; omega)
  have hkf : k * f ≤ 4000 := by omega
  have hlk : lenK n f k ≤ 256 := by unfold lenK; omega
  obtain ⟨xs, c, hd⟩ : ∃ xs c, decFrF (s.extract (a + 2) b) = (xs, c) := ⟨_, _, rfl⟩
  have HD := hide hd
  have HST := hide hst
  have HLN := hide (fun w h => c_length s n f k (.slice (some ⟨B, off, none⟩) t.length cap) (t.map fun (x : Nat) => (x : Int)) w h hn hkn)
  clear hd hta htb hst ha hb hr hal hx hca0 hcb0 hlen
  have a4 : ((k : Int) + 1).toNat = k + 1 := by omega
  have a1 : (k : Int) < (t.length : Int) := by omega
  have a2 : (k : Int) + 1 < (t.length : Int) := by omega
  have a6 : (0 : Int) ≤ (k : Int) + 1 := by omega
  have a7 : IntKind.i64.wrap ((k : Int) + 1) = (k : Int) + 1 := IntWalk.i64_in _ (by omega)
  have a8 : IntKind.i64.wrap ((a : Int) + 2) = (a : Int) + 2 := IntWalk.i64_in _ (by omega)
  have a9 : (0 : Int) ≤ (a : Int) + 2 := by omega
  have a10 : (a : Int) + 2 ≤ (b : Int) := by omega
  have a11 : (b : Int) ≤ (s.size : Int) := by omega
  have a12 : ((a : Int) + 2).toNat = a + 2 := by omega
  generalize lenK n f k = m at *
  unfold stV
  go_enter Tryz.func40, Tryz.ntmps40
  go_wp2_with fail
  go_region_held3 (fun w' => w'.cell? ⟨w.heap.size, 0, none⟩ = some (.string s) ∧ w'.cell? ⟨w.heap.size, 3, none⟩ = some (.slice (some ⟨B, off, none⟩) t.length cap) ∧ w'.cell? ⟨B, off + k, none⟩ = some (.int .i64 (a : Int)) ∧ w'.cell? ⟨B, off + (k + 1), none⟩ = some (.int .i64 (b : Int))) (first | go_keep | (refine ⟨(hb1.cell ?_).trans ?_, (hb1.cell ?_).trans ?_, (hb1.cell ?_).trans ?_, (hb1.cell ?_).trans ?_⟩ <;> first | assumption | (simp [*]; done) | (simp; omega))) (first | (go_at_call 61; refine (c_iDf _ _ _ HSZ.out HD.out).mono ?_; rintro e w1 ⟨v1, rfl, ho1, hb1⟩))
  have hb2 := undrew hb1
  have HO1 : Sec (OwI 2 w1 (w.heap.size + 1) v1 xs) := hide (by have := ho1; simpa using this)
  have hbk := (Bk.born w 52 #[.string s, .int .i64 (n : Int), .int .i64 (f : Int), .slice (some ⟨B, off, none⟩) t.length cap]).below hb2 (by simp)
  have HRD := hide ((HR.out.below HAL.out).below hb2)
  have HB2 := hide (below_of_alloc hb2)
  have k0 := hbk.cell 0; have k1 := hbk.cell 1; have k2 := hbk.cell 2; have k3 := hbk.cell 3
  simp at k0 k1 k2 k3
  have HBK := hide hbk
  have hsz1 : w.heap.size + 1 ≤ w1.heap.size := by have := hb2.size; simpa using this
  clear hb1 hb2 ho1 hbk hca hcb HAL
  by_cases hc0 : c = 0
  · subst hc0
    obtain ⟨A1, cap1, rfl, _, _, _⟩ := HO1.out.rd.open_
    by_cases hm : xs.length = m
    · have HE := hide (load3 HD.out hm)
      obtain rfl : xs.length = m := hm
      go_wp2_with fail
      go_region_held3 (fun w' => w'.cell? ⟨w.heap.size, 0, none⟩ = some (.string s) ∧ w'.cell? ⟨w.heap.size, 1, none⟩ = some (.int .i64 (n : Int)) ∧ w'.cell? ⟨w.heap.size, 2, none⟩ = some (.int .i64 (f : Int)) ∧ w'.cell? ⟨w.heap.size, 3, none⟩ = some (.slice (some ⟨B, off, none⟩) t.length cap)) (first | go_keep | (refine ⟨(hb3.cell ?_).trans ?_, (hb3.cell ?_).trans ?_, (hb3.cell ?_).trans ?_, (hb3.cell ?_).trans ?_⟩ <;> first | assumption | (simp [*]; done) | (simp; omega))) (first | (go_at_call 51; refine (HLN.out _ (by exact HRD.out)).mono ?_; rintro e w2 ⟨rfl, hb3⟩) | (go_at_call 31; refine (c_size _ xs _ (by first | exact HO1.out.rd | exact RdI.below (show RdI w1.drew _ _ from HO1.out.rd) hb3)).mono ?_; rintro e w' ⟨rfl, rfl⟩))
      have HB3 := hide (HB2.out.trans ((undrew hb3).mono (by omega)))
      have HO3 : Sec (OwI 2 w2 (w.heap.size + 1) _ xs) := hide (own_all (show OwI _ w1.drew _ _ _ from HO1.out) hb3)
      clear hb3
      go_wp2
      go_ret2
      exact LoR.mk HE.out (HO3.out.more (by omega)) HB3.out
    · have HE := hide (load2 HD.out hm)
      have hmi : ((xs.length : Int) != (m : Int)) = true := by simp; omega
      go_wp2_with fail
      go_region_held3 (fun w' => w'.cell? ⟨w.heap.size, 0, none⟩ = some (.string s) ∧ w'.cell? ⟨w.heap.size, 1, none⟩ = some (.int .i64 (n : Int)) ∧ w'.cell? ⟨w.heap.size, 2, none⟩ = some (.int .i64 (f : Int)) ∧ w'.cell? ⟨w.heap.size, 3, none⟩ = some (.slice (some ⟨B, off, none⟩) t.length cap)) (first | go_keep | (refine ⟨(hb3.cell ?_).trans ?_, (hb3.cell ?_).trans ?_, (hb3.cell ?_).trans ?_, (hb3.cell ?_).trans ?_⟩ <;> first | assumption | (simp [*]; done) | (simp; omega))) (first | (go_at_call 51; refine (HLN.out _ (by exact HRD.out)).mono ?_; rintro e w2 ⟨rfl, hb3⟩) | (go_at_call 31; refine (c_size _ xs _ (by first | exact HO1.out.rd | exact RdI.below (show RdI w1.drew _ _ from HO1.out.rd) hb3)).mono ?_; rintro e w' ⟨rfl, rfl⟩))
      have HB3 := hide (HB2.out.trans ((undrew hb3).mono (by omega)))
      clear hb3
      go_wp2
      go_ret2
      exact LoR.mkE HE.out HB3.out
  · have HE := hide (load1 (m := m) HD.out hc0)
    have ht : (c == 0) = false := by simpa using hc0
    have ht2 : (c != 0) = true := by simpa using hc0
    clear hc0
    go_wp2_with fail
    go_quiet (fail)
    go_wp2
    go_ret2
    exact LoR.mkE HE.out (below_drewN HB2.out _)
end Go.Proofs.YtopgjanpbfnlnaaGreat
