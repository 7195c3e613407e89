/- Contracts: decimals read, by both sides; a line of changes read. -/
import Derived.Test.YtjbcanihpcfncaaDoorYc
namespace Go.Proofs.YtjbcanihpcfncaaDoor
open Go.RowKit
theorem c_l01Digit (x : Nat) (w : World) : Calls Tryd.prog 10 #[.int .u8 (x : Int)] w fun e w' => e = .returned (.bool (decide (48 ≤ x ∧ x ≤ 57))) ∧ w = w' := by
  by_cases h : 48 ≤ x
  all_goals
    go_enter Tryd.func10, Tryd.ntmps10
    go_wp2
    go_ret
    exact ⟨ret_bool (by by_cases h2 : x ≤ 57 <;> first | rfl | (simp [h, h2]; done) | (simp [h, h2]; omega)), rfl⟩
theorem numV_lt : ∀ (l : List UInt8) (a : Nat), (∀ b ∈ l, digB b = true) → numV a l < (a + 1) * 10 ^ l.length
  | [], a, _ => by rw [numV_nil]; simp
  | b :: t, a, h => by
    have hb : 48 ≤ b.toNat ∧ b.toNat ≤ 57 := by have := h b (by simp); simpa [digB] using this
    have := numV_lt t (a * 10 + (b.toNat - 48)) (fun c hc => h c (by simp [hc]))
    rw [numV_cons, List.length_cons, Nat.pow_succ]
    have h2 : (a * 10 + (b.toNat - 48) + 1) * 10 ^ t.length ≤ ((a + 1) * 10) * 10 ^ t.length := Nat.mul_le_mul_right _ (by omega)
    rw [Nat.mul_comm (10 ^ t.length) 10, ← Nat.mul_assoc]
    omega
theorem numV_take {l : List UInt8} {k : Nat} (h : ∀ b ∈ l, digB b = true) (hk : k ≤ 17) : numV 0 (l.take k) ≤ 99999999999999999 := by
  have := numV_lt (l.take k) 0 (fun b hb => h b (List.mem_of_mem_take hb))
  have hl : (l.take k).length ≤ 17 := by rw [List.length_take]; omega
  have h2 : 10 ^ (l.take k).length ≤ 10 ^ 17 := Nat.pow_le_pow_right (by omega) hl
  omega
theorem bareL_dig {l : List UInt8} (h : ∀ b ∈ l, digB b = true) : bareL l = l := by
  cases l with
  | nil => rfl
  | cons b t => simp [bareL, (dig_not45 (h b (by simp))).2.2]
theorem numF_short {l : List UInt8} (h : ∀ b ∈ l, digB b = true) (hl : l.length < 1 ∨ 18 < l.length) : numF l = none := by
  unfold numF
  rw [if_neg]
  rw [bareL_dig h]; omega
theorem numF_dig {l : List UInt8} (h : ∀ b ∈ l, digB b = true) (h1 : 1 ≤ l.length) (h2 : l.length ≤ 18) : numF l = if decL (numV 0 l : Int) = l then some (numV 0 l : Int) else none := by
  unfold numF
  rw [bareL_dig h, if_pos ⟨h1, h2, List.all_eq_true.2 h⟩]
  simp
theorem take_numV {l : List UInt8} {k : Nat} {b : UInt8} (h : l[k]? = some b) : numV 0 (l.take (k + 1)) = numV 0 (l.take k) * 10 + (b.toNat - 48) := by
  rw [take_snoc_of h, numV_append, numV_one]
set_option maxHeartbeats 1000000 in
set_option maxRecDepth 20000 in
theorem c_sNum (s : ByteArray) (l : List UInt8) (w : World) (hsl0 : s.data.toList = l) (hd : ∀ b ∈ l, digB b = true) (hl : l.length ≤ 1048576) :
    Calls Tryd.prog 11 #[.string s] w fun e w' => e = .returned (.tuple #[.int .i64 ((numF l).getD 0), .bool (numF l).isSome]) ∧ Below w.heap.size w w' := by
  have hsl : s.size = l.length := by rw [← hsl0]; exact (Array.length_toList).symm
  have hem : s.toList.isEmpty = decide (l = []) := by rw [toList_eq, hsl0]; cases l <;> rfl
  by_cases h1 : l.length < 1 ∨ 18 < l.length
  · rw [numF_short hd h1]
    by_cases h0 : l = []
    · rw [decide_eq_true h0] at hem
      have h00 : s.size = 0 := by rw [hsl, h0]; rfl
      clear hd h1 hsl0 hsl h0
      go_enter Tryd.func11, Tryd.ntmps11
      go_wp2
      go_ret2
      exact ⟨rfl, Below.refl _ _⟩
    · rw [decide_eq_false h0] at hem
      have hpos : 18 < l.length := by rcases h1 with h1 | h1; exact absurd (List.eq_nil_of_length_eq_zero (by omega)) h0; exact h1
      have hb0 : ((bA s 0 : Int) == 45) = false := by
        unfold bA; rw [hsl0, List.getD_eq_getElem?_getD, List.getElem?_eq_getElem (by omega)]
        have := (dig_not45 (hd _ (List.getElem_mem (show 0 < l.length by omega)))).2.1
        simp; omega
      have hge := bA_get (s := s) (n := 0) (by omega)
      rw [← hge] at hb0
      have HD := hide hd; clear hd h1 hge h0 hsl0
      go_enter Tryd.func11, Tryd.ntmps11
      go_wp2
      go_ret2
      exact ⟨rfl, Below.refl _ _⟩
  · have hem2 : s.toList.isEmpty = false := by rw [hem]; exact decide_eq_false (fun e => h1 (.inl (by rw [e]; simp)))
    have hb0 : ((bA s 0 : Int) == 45) = false := by
      unfold bA; rw [hsl0, List.getD_eq_getElem?_getD, List.getElem?_eq_getElem (by omega)]
      have := (dig_not45 (hd _ (List.getElem_mem (show 0 < l.length by omega)))).2.1
      simp; omega
    have hge0 := bA_get (s := s) (n := 0) (by omega)
    rw [← hge0] at hb0
    have hbs : ∀ k b, l[k]? = some b → bA s k = b.toNat := fun k b hk => by unfold bA; rw [hsl0, List.getD_eq_getElem?_getD, hk]; rfl
    have HBS := hide hbs
    have HNF := hide (numF_dig hd (by omega) (by omega))
    have HMK : Sec (∀ D : ByteArray, (D.toList == s.toList) = decide (D.data.toList = l)) := hide (fun D => by rw [toList_eq, toList_eq, hsl0]; rw [Bool.eq_iff_iff]; simp)
    have HDC := hide (fun (n : Nat) (h : n ≤ 9223372036854775807) (w : World) => c_l01Dec n w h)
    have HD := hide hd; clear hd hge0 hem hbs hsl0
    go_enter Tryd.func11, Tryd.ntmps11
    go_wp2
    go_loop [5, 6] (fun nv iv => ∃ k : Nat, k ≤ l.length ∧ iv = .int .i64 (k : Int) ∧ nv = .int .i64 (numV 0 (l.take k) : Int)) (fun _ iv => l.length - (intOf iv).toNat)
    case atStart => exact ⟨0, Nat.zero_le _, rfl, rfl⟩
    case round =>
      obtain ⟨k, hk, rfl, rfl⟩ := hrel
      by_cases hlt : k < l.length
      · have hgk := List.getElem?_eq_getElem hlt
        have hbk := HBS.out k _ hgk
        have hdg : 48 ≤ (l[k]).toNat ∧ (l[k]).toNat ≤ 57 := by have := HD.out _ (List.getElem_mem hlt); simpa [digB] using this
        have hnb := numV_take HD.out (show k ≤ 17 by omega)
        have HTK := hide (take_numV hgk)
        have hlts : k < s.size := by omega
        have hge := bA_get hlts
        generalize hgg : l[k] = b at *
        generalize numV 0 (l.take k) = n at *
        have hcv : IntKind.u8.wrap ((s[k]'hlts).toNat - 48 : Int) = ((b.toNat - 48 : Nat) : Int) := by rw [hge, hbk]; rw [IntWalk.u8_in _ (by omega)]; omega
        have hdd : decide (48 ≤ (s[k]'hlts).toNat ∧ (s[k]'hlts).toNat ≤ 57) = true := by rw [hge, hbk]; simpa using hdg
        have hbb : b.toNat - 48 ≤ 9 := by omega
        clear hgk hgg hge hbk hdg
        generalize b.toNat - 48 = d at *
        go_wp2_with (go_at_call 10; refine (c_l01Digit _ _).mono ?_; rintro e w' ⟨rfl, rfl⟩; rw [hdd])
        go_round
        case rel => exact ⟨k + 1, by omega, by go_num, by rw [HTK.out]; go_num⟩
        case measure => simp [intOf]; omega
      · have hkl : k = l.length := by omega
        subst hkl
        have hnn : numV 0 (l.take l.length) ≤ 9223372036854775807 := by
          rw [List.take_length]
          have := numV_lt l 0 HD.out
          have h2 : 10 ^ l.length ≤ 10 ^ 18 := Nat.pow_le_pow_right (by omega) (by omega)
          omega
        have HT := hide (show numV 0 (l.take l.length) = numV 0 l by rw [List.take_length])
        generalize numV 0 (l.take l.length) = n at *
        by_cases hq : decL (n : Int) = l
        · have hne : ((decS (n : Int)).toList == s.toList) = true := by rw [HMK.out]; exact decide_eq_true hq
          have hr : numF l = some (n : Int) := by rw [HNF.out, ← HT.out, if_pos hq]
          have HR := hide hr
          clear hq hr
          generalize hDD : decS (n : Int) = D at *
          have HDD := hide hDD; clear hDD
          go_wp2_with fail
          refine (HDC.out n hnn _).mono ?_; rintro e w' ⟨rfl, hb⟩; rw [HDD.out]
          have HB := hide hb; clear hb
          go_wp2
          go_ret2
          exact ⟨by rw [HR.out]; rfl, HB.out⟩
        · have hne : ((decS (n : Int)).toList == s.toList) = false := by rw [HMK.out]; exact decide_eq_false hq
          have hr : numF l = none := by rw [HNF.out, ← HT.out, if_neg hq]
          have HR := hide hr
          clear hq hr
          generalize hDD : decS (n : Int) = D at *
          have HDD := hide hDD; clear hDD
          go_wp2_with fail
          refine (HDC.out n hnn _).mono ?_; rintro e w' ⟨rfl, hb⟩; rw [HDD.out]
          have HB := hide hb; clear hb
          go_wp2
          go_ret2
          exact ⟨by rw [HR.out]; rfl, HB.out⟩
end Go.Proofs.YtjbcanihpcfncaaDoor
