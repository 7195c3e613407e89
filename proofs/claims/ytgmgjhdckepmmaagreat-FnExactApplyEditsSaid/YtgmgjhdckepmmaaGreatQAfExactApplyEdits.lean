/- Plain laws on decimal numbers: what is written is read back. No program is named here. Contract: the text of a mark. -/
import Derived.Test.YtgmgjhdckepmmaaGreatQAaExactApplyEdits
import Derived.Lib.ItoaNum
import Derived.Lib.ItoaLen
import Derived.Lib.ParseIntB
import Derived.Lib.ParseIntBCases
import Derived.Lib.ParseIntBTie
import Derived.Test.YtgmgjhdckepmmaaGreatQAeExactApplyEdits
set_option linter.unusedVariables false
set_option linter.unusedSimpArgs false
section
namespace Go.Proofs.YtgmgjhdckepmmaaGreat
open Go.Lib
theorem decDigits_small {u : Nat} (h : u < 10) : decDigits u = [UInt8.ofNat (48 + u)] := by rw [decDigits, dif_pos h]
theorem decDigits_big {u : Nat} (h : ¬ u < 10) : decDigits u = decDigits (u / 10) ++ [UInt8.ofNat (48 + u % 10)] := by rw [decDigits, dif_neg h]
/-- The digits that are there already, when a number is taken apart from behind. -/
def preD (u : Nat) : List UInt8 := if u = 0 then [] else decDigits u
theorem preD_step {u : Nat} (h : u ≠ 0) : preD u = preD (u / 10) ++ [UInt8.ofNat (48 + u % 10)] := by
  unfold preD
  rw [if_neg h]
  by_cases h1 : u < 10
  · rw [decDigits_small h1, if_pos (by omega)]
    have : u % 10 = u := by omega
    rw [this]; rfl
  · rw [decDigits_big h1, if_neg (by omega)]
theorem preD_len (k : Nat) : ∀ u, u < 10 ^ k → (preD u).length ≤ k := by
  induction k with
  | zero => intro u h; have : u = 0 := by simpa using h
            subst this; simp [preD]
  | succ k ih =>
    intro u h
    by_cases h0 : u = 0
    · subst h0; simp [preD]
    · rw [preD_step h0, List.length_append]
      have := ih (u / 10) (by rw [Nat.pow_succ] at h; omega)
      simp; omega
end Go.Proofs.YtgmgjhdckepmmaaGreat
end
section
namespace Go.Proofs.YtgmgjhdckepmmaaGreat
open Go.RowKit
/-- The text of a mark. -/
def mrkB (k : Nat) : ByteArray := mkS (109 :: preD k)
theorem str_of0 {w : World} {v : Value} {bs : List UInt8} (h : RdY w v bs) : (convert 22 9 v).run Tryz.prog w = .ok (.string (mkS bs)) w :=
  run_str Tryz.underlying22 Tryz.underlying5 Tryz.underlying9 h
theorem byte_cell (n : Nat) (h : n < 256) (w : World) : RdY (w.alloc (.cells #[.int .u8 (n : Int)] 5)) (.slice (some ⟨w.heap.size, 0, none⟩) 1 1) [UInt8.ofNat n] := by
  have e1 : ((UInt8.ofNat n).toNat : Int) = (n : Int) := by rw [UInt8.toNat_ofNat_of_lt' (by exact h)]
  have := World.ownsRow_lit (base := w.heap.size) (e := 5) (size := 1) w #[.int .u8 (n : Int)] 1 (Nat.le_refl _) (by decide) rfl
  refine OwY.rd (E := 5) (B := w.heap.size) ?_
  unfold OwY
  simp only [List.length_cons, List.length_nil, List.map_cons, List.map_nil, e1]
  exact this
set_option maxHeartbeats 1000000 in
set_option maxRecDepth 20000 in
theorem c_markText (k : Nat) (w : World) (h0 : 0 < k) (hk : k ≤ 4611686018427387904) : Calls Tryz.prog 190 #[.int .i64 (k : Int)] w fun e w' => e = .returned (.string (mrkB k)) ∧ Below w.heap.size w w' := by
  have hkk : ¬ (k : Int) ≤ 0 := by omega
  go_enter Tryz.func190, Tryz.ntmps190
  go_wp2
  go_loopw [0, 3] (fun kv o wr => ∃ (m : Nat) (l : List UInt8), m ≤ k ∧ kv = .int .i64 (m : Int) ∧ o = .string (mkS l) ∧ preD k = preD m ++ l ∧ Below w.heap.size w wr) (fun kv _ _ => (intOf kv).toNat)
  case atStart => exact ⟨k, [], Nat.le_refl _, rfl, rfl, by simp, Below.refl _ _⟩
  case round =>
    obtain ⟨m, l, hm, rfl, rfl, hp, hb⟩ := hrel
    have hll : (mkS l).size ≤ 19 := by have h1 := congrArg List.length hp; have h2 := preD_len 19 k (by omega); rw [List.length_append] at h1; rw [size_mkS]; omega
    have HP := hide hp; have HB := hide hb; clear hp hb
    by_cases hz : 0 < m
    · have hmod : (m : Int) % 10 = ((m % 10 : Nat) : Int) := by omega
      have hdiv : (m : Int) / 10 = ((m / 10 : Nat) : Int) := by omega
      have hd : m % 10 < 10 := Nat.mod_lt _ (by omega)
      have HS := hide (preD_step (u := m) (by omega))
      generalize hdd : m % 10 = d at *
      have hq : m / 10 < m := by omega
      generalize hqq : m / 10 = q at *
      have hcv : ∀ W : World, (convert 22 9 (.slice (some ⟨W.heap.size, 0, none⟩) 1 1)).run Tryz.prog (W.alloc (.cells #[.int .u8 (48 + (d : Int))] 5)) = .ok (.string (mkS [UInt8.ofNat (48 + d)])) (W.alloc (.cells #[.int .u8 (48 + (d : Int))] 5)) := fun W => str_of0 (byte_cell (48 + d) (by omega) W)
      have happ : mkS [UInt8.ofNat (48 + d)] ++ mkS l = mkS ([UInt8.ofNat (48 + d)] ++ l) := mkS_append _ _
      generalize hcc : UInt8.ofNat (48 + d) = c at *
      have h1s : (mkS [c]).size = 1 := size_mkS _
      have HA := hide happ; clear happ hcc
      clear hdd hqq
      go_wp2
      go_roundw
      case rel => exact ⟨q, [c] ++ l, by omega, by go_num, by rw [HA.out], by rw [HP.out, HS.out]; simp, HB.out.alloc HB.out.size _⟩
      case measure => simp [intOf]; omega
    · have hl : preD k = l := by have := HP.out; rw [this, show m = 0 by omega]; simp [preD]
      have hz2 : ¬ (0 : Int) < (m : Int) := by omega
      have happ : mkS [109] ++ mkS l = mrkB k := by rw [mkS_append, mrkB, hl]; rfl
      have HA := hide happ; clear happ
      have h1s : (⟨#[109]⟩ : ByteArray).size = 1 := rfl
      go_wp2
      go_ret
      exact ⟨ret_str (by rw [← HA.out]; rfl), HB.out⟩
end Go.Proofs.YtgmgjhdckepmmaaGreat
end
