/- Contract: the number that an input chooses, said whole; the law of FnDamage. -/
import Derived.Test.YtpmflkoepnanoaaSa
import Derived.Test.YtpmflkoepnanoaaRa
import Derived.Test.YtpmflkoepnanoaaJf
import Derived.Test.YtpmflkoepnanoaaRf
import Derived.Test.YtpmflkoepnanoaaJk
namespace Go.Proofs.Ytpmflkoepnanoaa
open Go.RowKit
/-- The number below n that bytes k and k + 1 choose. -/
def atF (bs : List UInt8) (k n : Nat) : Nat :=
  if n ≤ 1 then 0 else if bs.length ≤ k then 0 else (if k + 1 < bs.length then 256 * (bs.getD k 0).toNat + (bs.getD (k + 1) 0).toNat else (bs.getD k 0).toNat) % n
theorem atF_lt (bs : List UInt8) (k n : Nat) (h : 0 < n) : atF bs k n < n := by
  unfold atF
  split
  · exact h
  · split
    · exact h
    · exact Nat.mod_lt _ h
set_option maxHeartbeats 1000000 in
set_option maxRecDepth 100000 in
theorem c_v8AtF (v : Value) (bs : List UInt8) (k n : Nat) (w : World) (hr : RdY w v bs) (hbs : bs.length ≤ 1073741824) (hk : k ≤ 1000) (hn : n ≤ 1073741824) :
    Calls Try.prog 13 #[v, .int .i64 (k : Int), .int .i64 (n : Int)] w fun e w' => e = .returned (.int .i64 ((atF bs k n : Nat) : Int)) ∧ Dr w w' := by
  obtain ⟨_, A, cap, rfl, hl, hc, hx⟩ := hr
  by_cases h1 : n ≤ 1
  · have t1 : (n : Int) ≤ 1 := by omega
    have HV := hide (show atF bs k n = 0 by unfold atF; rw [if_pos h1])
    clear h1
    go_enter Try.func13, Try.ntmps13
    go_wp2
    go_ret
    exact ⟨by rw [HV.out]; rfl, Dr.refl _⟩
  · have t1 : ¬ (n : Int) ≤ 1 := by omega
    by_cases h2 : bs.length ≤ k
    · have t2 : (bs.length : Int) ≤ (k : Int) := by omega
      have HV := hide (show atF bs k n = 0 by unfold atF; rw [if_neg h1, if_pos h2])
      clear h1 h2
      go_enter Try.func13, Try.ntmps13
      go_wp2
      go_ret
      exact ⟨by rw [HV.out]; rfl, Dr.refl _⟩
    · have t2 : ¬ (bs.length : Int) ≤ (k : Int) := by omega
      obtain ⟨b, off, rfl, hb, hcell⟩ := hx (by omega)
      have hc0 := hcell k (.int .u8 (bs[k].toNat : Int)) (by rw [List.getElem?_map, List.getElem?_eq_getElem (by omega)]; rfl)
      have hb8 := UInt8.toNat_lt bs[k]
      have g0 : bs.getD k 0 = bs[k] := by rw [List.getD_eq_getElem?_getD, List.getElem?_eq_getElem (by omega)]; rfl
      by_cases h3 : k + 1 < bs.length
      · have t3 : (k : Int) + 1 < (bs.length : Int) := by omega
        have hc1 := hcell (k + 1) (.int .u8 (bs[k + 1].toNat : Int)) (by rw [List.getElem?_map, List.getElem?_eq_getElem h3]; rfl)
        have hb9 := UInt8.toNat_lt bs[k + 1]
        have g1 : bs.getD (k + 1) 0 = bs[k + 1] := by rw [List.getD_eq_getElem?_getD, List.getElem?_eq_getElem h3]; rfl
        have hv : atF bs k n = (256 * bs[k].toNat + bs[k + 1].toNat) % n := by unfold atF; rw [if_neg h1, if_neg h2, if_pos h3, g0, g1]
        have HV := hide hv; clear hv g0 g1
        generalize bs[k].toNat = y at *
        generalize bs[k + 1].toNat = z at *
        clear hcell hx
        obtain ⟨s, hs⟩ : ∃ s, 256 * y + z = s := ⟨_, rfl⟩
        rw [hs] at HV
        have es : 256 * (y : Int) + (z : Int) = (s : Int) := by omega
        have hsb : s ≤ 70000 := by omega
        have a4 : ((k : Int) + 1).toNat = k + 1 := by omega
        have EM := hide (show (s : Int) % (n : Int) = ((s % n : Nat) : Int) by simp)
        clear hs
        go_enter Try.func13, Try.ntmps13
        go_wp2
        go_ret
        exact ⟨by rw [HV.out]; exact ret_int EM.out, by first | exact Dr.refl _ | exact ⟨_, rfl⟩⟩
      · have t3 : ¬ (k : Int) + 1 < (bs.length : Int) := by omega
        have hv : atF bs k n = bs[k].toNat % n := by unfold atF; rw [if_neg h1, if_neg h2, if_neg h3, g0]
        have HV := hide hv; clear hv g0
        generalize bs[k].toNat = y at *
        clear hcell hx
        have EM := hide (show (y : Int) % (n : Int) = ((y % n : Nat) : Int) by simp)
        go_enter Try.func13, Try.ntmps13
        go_wp2
        go_ret
        exact ⟨by rw [HV.out]; exact ret_int EM.out, by first | exact Dr.refl _ | exact ⟨_, rfl⟩⟩
end Go.Proofs.Ytpmflkoepnanoaa
