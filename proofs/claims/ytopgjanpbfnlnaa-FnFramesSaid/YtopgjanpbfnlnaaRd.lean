/- Contracts: a drawn signal, and the laws' small helpers. -/
import Derived.Test.YtopgjanpbfnlnaaRc
import Derived.Test.YtopgjanpbfnlnaaAc
namespace Go.Proofs.Ytopgjanpbfnlnaa
open Go.RowKit
theorem RdY.lt {w : World} {v : Value} {bs : List UInt8} (h : RdY w v bs) (h0 : 0 < bs.length) : ∀ b, v.ownBlock = some b → b < w.heap.size := by
  obtain ⟨_, A, cap, rfl, _, _, h5⟩ := h
  obtain ⟨b, off, rfl, hb, _⟩ := h5 h0
  intro b' e
  have e' : b = b' := by simpa [Value.ownBlock] using e
  omega
set_option maxHeartbeats 400000 in
theorem c_l00From (A : Option Addr) (l cap : Nat) (w : World) : Calls Try.prog 99 #[.slice A l cap] w fun e w' => e = .returned (.pointer (some ⟨w.heap.size, 0, none⟩)) ∧ w' = w.alloc (.cells #[.slice A l cap, .int .i64 0, .int .u64 0] 109) := by
  go_enter Try.func99, Try.ntmps99
  go_wp2
  go_ret
  exact ⟨rfl, rfl⟩
set_option maxHeartbeats 1000000 in
set_option maxRecDepth 100000 in
theorem c_E8Signal (v : Value) (bs : List UInt8) (most : Nat) (w : World) (hr : RdY w v bs) (hbs : bs.length ≤ 1073741824) (hm : most ≤ 4000) :
    Calls Try.prog 46 #[v, .int .i64 (most : Int)] w fun e w' => ∃ (v' : Value) (xs : List Int), e = .returned v' ∧ OwI 2 w' w.heap.size v' xs ∧ (∀ x ∈ xs, Smp x) ∧ xs.length ≤ most ∧ Below w.heap.size w w' := by
  have HR := hide hr
  have HLT := hide (fun h0 => hr.lt h0)
  obtain ⟨_, A, cap, rfl, _, _, _⟩ := hr
  have HB := hide ((Below.refl w.heap.size w).alloc (Nat.le_refl _) (.cells #[.slice A bs.length cap, .int .i64 0, .int .u64 0] 109))
  have HS := hide (show Src (w.alloc (.cells #[.slice A bs.length cap, .int .i64 0, .int .u64 0] 109)) w.heap.size (.slice A bs.length cap) 0 from ⟨0, by decide, Bk.born _ _ _⟩)
  go_enter Try.func46, Try.ntmps46
  go_wp2_with fail
  refine (c_l00From _ _ _ _).mono ?_; rintro e w1 ⟨rfl, rfl⟩
  go_wp2_with fail
  refine (c_l29Draw w.heap.size _ bs 0 most _ HS.out (Rd.alloc HR.out _) (by omega) hbs (fun h0 b e => by have := HLT.out h0 b e; omega) hm).mono ?_; rintro e w2 ⟨v2, xs, a2, rfl, ho, hxs, hxl, _, _, hg⟩
  have HO := hide ho; have HX := hide hxs; have HG := hide (HB.out.grown hg (by simp) (fun k hk => by injection hk with hk; omega))
  clear ho hxs hg
  go_wp2
  go_ret
  exact ⟨_, xs, rfl, HO.out.more (by simp), HX.out, hxl, HG.out⟩
/-- The number that an input chooses. -/
def AtR (n : Nat) (w : World) (e : Ending) (w' : World) : Prop := ∃ x : Nat, e = .returned (.int .i64 (x : Int)) ∧ (x < n ∨ x = 0) ∧ Dr w w'
set_option maxHeartbeats 1000000 in
set_option maxRecDepth 100000 in
theorem c_v8At (v : Value) (bs : List UInt8) (k n : Nat) (w : World) (hr : RdY w v bs) (hbs : bs.length ≤ 1073741824) (hk : k ≤ 1000) (hn : n ≤ 1073741824) : Calls Try.prog 48 #[v, .int .i64 (k : Int), .int .i64 (n : Int)] w (AtR n w) := by
  obtain ⟨_, A, cap, rfl, hl, hc, hx⟩ := hr
  by_cases h1 : n ≤ 1
  · have t1 : (n : Int) ≤ 1 := by omega
    go_enter Try.func48, Try.ntmps48
    go_wp2
    go_ret
    exact ⟨0, rfl, .inr rfl, Dr.refl _⟩
  · have t1 : ¬ (n : Int) ≤ 1 := by omega
    by_cases h2 : bs.length ≤ k
    · have t2 : (bs.length : Int) ≤ (k : Int) := by omega
      go_enter Try.func48, Try.ntmps48
      go_wp2
      go_ret
      exact ⟨0, rfl, .inr rfl, Dr.refl _⟩
    · have t2 : ¬ (bs.length : Int) ≤ (k : Int) := by omega
      obtain ⟨b, off, rfl, hb, hcell⟩ := hx (by omega)
      have hc0 := hcell k (.int .u8 (bs[k].toNat : Int)) (by rw [List.getElem?_map, List.getElem?_eq_getElem (by omega)]; rfl)
      have hb8 := UInt8.toNat_lt bs[k]
      generalize bs[k].toNat = y at *
      by_cases h3 : k + 1 < bs.length
      · have t3 : (k : Int) + 1 < (bs.length : Int) := by omega
        have hc1 := hcell (k + 1) (.int .u8 (bs[k + 1].toNat : Int)) (by rw [List.getElem?_map, List.getElem?_eq_getElem h3]; rfl)
        have hb9 := UInt8.toNat_lt bs[k + 1]
        generalize bs[k + 1].toNat = z at *
        clear hcell hx
        obtain ⟨s, hs⟩ : ∃ s, 256 * y + z = s := ⟨_, rfl⟩
        have es : 256 * (y : Int) + (z : Int) = (s : Int) := by omega
        have hsb : s ≤ 70000 := by omega
        have a4 : ((k : Int) + 1).toNat = k + 1 := by omega
        have EM := hide (show (s : Int) % (n : Int) = ((s % n : Nat) : Int) by simp)
        have hm := Nat.mod_lt s (show 0 < n by omega)
        clear hs
        go_enter Try.func48, Try.ntmps48
        go_wp2
        go_ret
        exact ⟨s % n, ret_int EM.out, .inl hm, by first | exact Dr.refl _ | exact ⟨_, rfl⟩⟩
      · have t3 : ¬ (k : Int) + 1 < (bs.length : Int) := by omega
        clear hcell hx
        have EM := hide (show (y : Int) % (n : Int) = ((y % n : Nat) : Int) by simp)
        have hm := Nat.mod_lt y (show 0 < n by omega)
        go_enter Try.func48, Try.ntmps48
        go_wp2
        go_ret
        exact ⟨y % n, ret_int EM.out, .inl hm, by first | exact Dr.refl _ | exact ⟨_, rfl⟩⟩
set_option maxHeartbeats 400000 in
theorem c_v8Long (v1 v2 : Value) (xs ys : List UInt8) (w : World) (h1 : RdY w v1 xs) (h2 : RdY w v2 ys) : Calls Try.prog 45 #[v1, v2] w fun e w' => e = .returned (.bool (decide (1048576 < xs.length) || decide (1048576 < ys.length))) ∧ w = w' := by
  obtain ⟨_, A1, cap1, rfl, _, _, _⟩ := h1
  obtain ⟨_, A2, cap2, rfl, _, _, _⟩ := h2
  by_cases ha : 1048576 < xs.length
  · have ta : (1048576 : Int) < (xs.length : Int) := by omega
    have HA := hide ha; clear ha
    go_enter Try.func45, Try.ntmps45
    go_wp2
    go_ret
    exact ⟨ret_bool (by rw [decide_eq_true HA.out]; rfl), rfl⟩
  · have ta : ¬ (1048576 : Int) < (xs.length : Int) := by omega
    have HA := hide ha; clear ha
    have e2 : decide ((1048576 : Int) < (ys.length : Int)) = decide (1048576 < ys.length) := decide_eq_decide.2 (by omega)
    have E2 := hide e2; clear e2
    go_enter Try.func45, Try.ntmps45
    go_wp2
    go_ret
    exact ⟨ret_bool (by rw [decide_eq_false HA.out, Bool.false_or, ← E2.out]), rfl⟩
set_option maxHeartbeats 400000 in
theorem c_v8Same (v1 v2 : Value) (xs ys : List Int) (w : World) (hr1 : RdI w v1 xs) (hr2 : RdI w v2 ys) : Calls Try.prog 47 #[v1, v2] w fun e w' => e = .returned (.bool (decide (xs = ys))) ∧ Dr w w' := by
  obtain ⟨A1, cap1, rfl, hl1, hc1, hx1⟩ := hr1.open_
  obtain ⟨A2, cap2, rfl, hl2, hc2, hx2⟩ := hr2.open_
  have HX1 := hide hx1; have HX2 := hide hx2; clear hx1 hx2 hr1 hr2
  by_cases hll : xs.length = ys.length
  · have hb : ((xs.length : Int) != (ys.length : Int)) = false := by simp [hll]
    have HL := hide hll; clear hll
    go_enter Try.func47, Try.ntmps47
    go_wp2
    go_loopw [5] (fun i wr => ∃ k : Nat, k ≤ xs.length ∧ i = .int .i64 k ∧ xs.take k = ys.take k ∧ Dr w wr) (fun i _ => xs.length - (intOf i).toNat)
    case atStart => exact ⟨0, Nat.zero_le _, rfl, rfl, Dr.refl _⟩
    case round =>
      obtain ⟨k, hk, rfl, hs, nr, rfl⟩ := hrel
      have HS := hide hs; clear hs
      by_cases hlt : k < xs.length
      · have hlt2 : k < ys.length := by have := HL.out; omega
        obtain ⟨b1, off1, rfl, hb1, hcell1⟩ := HX1.out k xs[k] (List.getElem?_eq_getElem hlt)
        obtain ⟨b2, off2, rfl, hb2, hcell2⟩ := HX2.out k ys[k] (List.getElem?_eq_getElem hlt2)
        by_cases he : xs[k] = ys[k]
        · have hd : (xs[k] != ys[k]) = false := by simp [he]
          have HE := hide he; clear he
          go_wp2
          go_quiet (fail)
          go_wp2
          go_roundw
          case rel => exact ⟨k + 1, by omega, by go_num, takes_succ HS.out (List.getElem?_eq_getElem hlt) (by rw [HE.out]; exact List.getElem?_eq_getElem hlt2), (by repeat (first | exact Dr.refl _ | exact ⟨_, rfl⟩ | refine Dr.drewN ?_ _ | refine Dr.drew ?_))⟩
          case measure => simp [intOf]; omega
        · have hd : (xs[k] != ys[k]) = true := by simp [he]
          have HE := hide he; clear he
          go_wp2
          go_quiet (fail)
          go_wp2
          go_ret
          exact ⟨by simp [ne_at (List.getElem?_eq_getElem hlt) (List.getElem?_eq_getElem hlt2) HE.out], (by repeat (first | exact Dr.refl _ | exact ⟨_, rfl⟩ | refine Dr.drewN ?_ _ | refine Dr.drew ?_))⟩
      · go_wp2
        go_ret
        exact ⟨by simp [eq_of_takes (k := k) (by omega) HL.out HS.out], (by repeat (first | exact Dr.refl _ | exact ⟨_, rfl⟩ | refine Dr.drewN ?_ _ | refine Dr.drew ?_))⟩
  · have hb : ((xs.length : Int) != (ys.length : Int)) = true := by simp; omega
    have hne : xs ≠ ys := fun e => hll (by rw [e])
    have HN := hide hne; clear hll hne
    go_enter Try.func47, Try.ntmps47
    go_wp2
    go_ret
    exact ⟨by simp [HN.out], Dr.refl _⟩
end Go.Proofs.Ytopgjanpbfnlnaa
