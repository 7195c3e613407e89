/- Contracts: numbers in decimal, by both sides. -/
import Derived.Test.YtjbcanihpcfncaaDoorDa
import Derived.Test.YtjbcanihpcfncaaDoorSh
import Derived.Test.YtjbcanihpcfncaaDoorTd
import Derived.Test.YtjbcanihpcfncaaDoorLk
import Derived.Lib.LaidTab
namespace Go.Proofs.YtjbcanihpcfncaaDoor
open Go.RowKit
/-- The library's table of powers of ten holds what its text says. -/
def TB (w : World) : Prop := Lib.TabIs Tryd.prog w "internal/strconv.uint64pow10" .u64 Lib.pow10Tab
theorem TB.keep {w w' : World} (h : TB w) (hk : ∀ b, b < w.heap.size → w'.heap[b]? = w.heap[b]?) : TB w' := by
  unfold TB Lib.TabIs World.var? at *
  cases hg : Tryd.prog.globalNamed "internal/strconv.uint64pow10" with
  | none => simp [hg] at h
  | some g =>
    simp only [hg, Option.bind_some] at h ⊢
    have hlt : g < w.heap.size := by
      rcases Nat.lt_or_ge g w.heap.size with h' | h'
      · exact h'
      · rw [Array.getElem?_eq_none h'] at h; simp at h
    rw [hk g hlt]
    exact h
theorem TB.below {w w' : World} (h : TB w) (hb : Below w.heap.size w w') : TB w' := h.keep fun b hlt => hb.block b hlt
theorem below_grow (w : World) (k : Nat) (os : Array Obj) : Below w.heap.size w (Go.Sort.grow (w.drewN k) os) :=
  ⟨rfl, rfl, rfl, by simp [Go.Sort.grow], fun b hb => by simp [Go.Sort.grow, Array.getElem?_append_left hb]⟩
theorem c_iDec (n : Int) (w : World) (ht : TB w) (h0 : -9223372036854775808 ≤ n) (h1 : n ≤ 9223372036854775807) : Calls Tryd.prog 31 #[.int .i64 n] w fun e w' => e = .returned (.string (decS n)) ∧ Below w.heap.size w w' := by
  go_enter Tryd.func31, Tryd.ntmps31
  go_wp2_with fail
  refine (Tryd.strconv_FormatInt_10 n h0 h1 _ ht).mono ?_; rintro e w1 ⟨rfl, k, os, rfl⟩
  have hb := below_grow w k os
  have HB := hide hb; clear hb
  generalize Go.Sort.grow (w.drewN k) os = w1 at *
  go_wp2
  go_ret
  exact ⟨rfl, HB.out⟩
theorem byte_own (B : Nat) (c : UInt8) (w : World) (hB : B ≤ w.heap.size) : OwY 5 (w.alloc (.cells #[.int .u8 (c.toNat : Int)] 5)) B (.slice (some ⟨w.heap.size, 0, none⟩) 1 1) [c] := by
  have := World.ownsRow_lit (base := B) (e := 5) (size := 1) w #[.int .u8 (c.toNat : Int)] 1 hB (by decide) rfl
  unfold OwY
  simp only [List.length_cons, List.length_nil, List.map_cons, List.map_nil]
  exact this
set_option maxHeartbeats 1000000 in
set_option maxRecDepth 20000 in
theorem c_l01Dec (n : Nat) (w : World) (h1 : n ≤ 9223372036854775807) : Calls Tryd.prog 21 #[.int .i64 (n : Int)] w fun e w' => e = .returned (.string (decS (n : Int))) ∧ Below w.heap.size w w' := by
  have hnn : ¬ (n : Int) < 0 := by omega
  generalize hD : decS (n : Int) = D
  have HDD := hide hD; clear hD
  go_enter Tryd.func21, Tryd.ntmps21
  go_wp2
  go_loopw [3, 4] (fun o kv wr => ∃ (m : Nat) (l : List UInt8), m ≤ n ∧ kv = .int .i64 (m : Int) ∧ preD n = preD m ++ l ∧ l.length ≤ 19 ∧ OwY 5 wr w.heap.size o l ∧ Below w.heap.size w wr) (fun _ kv _ => (intOf kv).toNat)
  case atStart => exact ⟨n, [], Nat.le_refl _, rfl, by simp, by simp, new_u8 w, (Below.refl _ _).alloc (Nat.le_refl _) _⟩
  case round =>
    obtain ⟨m, l, hm, rfl, hp, hll, ho, hb⟩ := hrel
    have HP := hide hp; have HO := hide ho; have HB := hide hb; have hsz := hb.size; clear hp hb
    by_cases hz : m = 0
    · have hl : preD n = l := by have := HP.out; rw [this, hz]; simp [preD]
      have hz2 : ((m : Int) != 0) = false := by simp; omega
      by_cases h0 : n = 0
      · have hle : l = [] := by rw [← hl, h0]; simp [preD]
        subst hle
        obtain ⟨A, cap, rfl, _, _, _⟩ := Rd.of_own ho |>.2
        have hdec : decS (n : Int) = mkS [48] := by unfold decS; rw [h0]; show mkS (decL 0) = _; rw [decL_zero]
        have HDE := hide (HDD.out.symm.trans hdec)
        clear hdec h0 hl ho
        go_wp2
        go_ret
        exact ⟨ret_str (by rw [HDE.out]; rfl), HB.out⟩
      · have hdec : decS (n : Int) = mkS l := by unfold decS; rw [decL_pos (by omega), show (n : Int).natAbs = n by omega, hl]
        have hl1 : 0 < l.length := by
          rcases Nat.eq_zero_or_pos l.length with h | h
          · have := List.eq_nil_of_length_eq_zero h
            rw [this] at hl
            have h2 := (dec_digits n).2.2
            simp [preD, h0] at hl
            exact absurd hl h2
          · exact h
        have hlb : ((l.length : Int) == 0) = false := beq_eq_false_iff_ne.2 (by omega)
        have hc := str_of ho.rd
        obtain ⟨A, cap, rfl, _, _, _⟩ := Rd.of_own ho |>.2
        have HDE := hide (HDD.out.symm.trans hdec)
        clear hdec hl ho
        go_wp2
        go_ret
        exact ⟨ret_str (by rw [HDE.out]), HB.out⟩
    · have hz2 : ((m : Int) != 0) = true := by simp; omega
      have hmod : (m : Int) % 10 = ((m % 10 : Nat) : Int) := by omega
      have hdiv : (m : Int) / 10 = ((m / 10 : Nat) : Int) := by omega
      have hd : m % 10 < 10 := Nat.mod_lt _ (by omega)
      have HS := hide (preD_step (u := m) (by omega))
      have hlen : ([UInt8.ofNat (48 + m % 10)] ++ l).length ≤ 19 := by
        have h3 := preD_len 19 n (by omega)
        rw [HP.out, HS.out] at h3
        simp at h3 ⊢; omega
      generalize hdd : m % 10 = d at *
      have hq : m / 10 < m := by omega
      generalize hqq : m / 10 = q at *
      have hcn : ((UInt8.ofNat (48 + d)).toNat : Int) = 48 + (d : Int) := by rw [dig_of hd]; omega
      have HOWN : Sec (∀ W : World, w.heap.size ≤ W.heap.size → OwY 5 (W.alloc (.cells #[.int .u8 (48 + (d : Int))] 5)) w.heap.size (.slice (some ⟨W.heap.size, 0, none⟩) 1 1) [UInt8.ofNat (48 + d)]) := hide (by
        intro W hW
        have := byte_own w.heap.size (UInt8.ofNat (48 + d)) W hW
        rw [hcn] at this
        exact this)
      have HLEN := hide hlen
      clear hdd hqq hlen ho hcn
      go_wp2_with (at_builtin; refine appm_u8 rfl _ _ rfl rfl (HOWN.out _ hsz) rfl (show RdY _ _ _ from Rd.below HO.out.rd ((Below.refl _ _).alloc (Nat.le_refl _) _)) (by simp; omega) (by simp; omega) ?_; intro v3 w3 ho3 hg3 hv3; have hb3 := below_own (HB.out.alloc HB.out.size _) (HOWN.out _ hsz) hg3 (Nat.le_refl _) (by simp; omega); have HO3 := hide ho3; have HB3 := hide hb3; clear ho3 hb3 hv3 hg3)
      go_roundw
      case rel => exact ⟨q, [UInt8.ofNat (48 + d)] ++ l, by omega, by go_num, by rw [HP.out, HS.out]; simp, HLEN.out, HO3.out, HB3.out⟩
      case measure => simp [intOf]; omega
end Go.Proofs.YtjbcanihpcfncaaDoor
