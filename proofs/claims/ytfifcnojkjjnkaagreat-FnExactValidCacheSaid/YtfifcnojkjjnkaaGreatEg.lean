/- Contracts: what is valid, by the program: names, sends, mixers, tracks. -/
import Derived.Test.YtfifcnojkjjnkaaGreatEf
import Derived.Maps.Own
import Derived.Test.YtfifcnojkjjnkaaGreatBa
namespace Go.Proofs.YtfifcnojkjjnkaaGreat
open Go.RowKit Go.WideMaps Go.Maps
theorem c_sizeStrip (A : Option Addr) (n c : Nat) (w : World) (h : n ≤ 9223372036854775807) : Calls Tryz.prog 156 #[.slice A n c] w fun e w' => e = .returned (.int .i64 (n : Int)) ∧ w = w' := by
  go_enter Tryz.func156, Tryz.ntmps156
  go_wp2
  go_ret
  exact ⟨rfl, rfl⟩
theorem c_sizePatch (A : Option Addr) (n c : Nat) (w : World) (h : n ≤ 9223372036854775807) : Calls Tryz.prog 159 #[.slice A n c] w fun e w' => e = .returned (.int .i64 (n : Int)) ∧ w = w' := by
  go_enter Tryz.func159, Tryz.ntmps159
  go_wp2
  go_ret
  exact ⟨rfl, rfl⟩
theorem c_sizeLL (A : Option Addr) (n c : Nat) (w : World) (h : n ≤ 9223372036854775807) : Calls Tryz.prog 162 #[.slice A n c] w fun e w' => e = .returned (.int .i64 (n : Int)) ∧ w = w' := by
  go_enter Tryz.func162, Tryz.ntmps162
  go_wp2
  go_ret
  exact ⟨rfl, rfl⟩
theorem c_sizeSend (A : Option Addr) (n c : Nat) (w : World) (h : n ≤ 9223372036854775807) : Calls Tryz.prog 224 #[.slice A n c] w fun e w' => e = .returned (.int .i64 (n : Int)) ∧ w = w' := by
  go_enter Tryz.func224, Tryz.ntmps224
  go_wp2
  go_ret
  exact ⟨rfl, rfl⟩
theorem c_sizeTrack (A : Option Addr) (n c : Nat) (w : World) (h : n ≤ 9223372036854775807) : Calls Tryz.prog 225 #[.slice A n c] w fun e w' => e = .returned (.int .i64 (n : Int)) ∧ w = w' := by
  go_enter Tryz.func225, Tryz.ntmps225
  go_wp2
  go_ret
  exact ⟨rfl, rfl⟩
theorem c_sizeClip (A : Option Addr) (n c : Nat) (w : World) (h : n ≤ 9223372036854775807) : Calls Tryz.prog 226 #[.slice A n c] w fun e w' => e = .returned (.int .i64 (n : Int)) ∧ w = w' := by
  go_enter Tryz.func226, Tryz.ntmps226
  go_wp2
  go_ret
  exact ⟨rfl, rfl⟩
theorem c_sizeNode (A : Option Addr) (n c : Nat) (w : World) (h : n ≤ 9223372036854775807) : Calls Tryz.prog 280 #[.slice A n c] w fun e w' => e = .returned (.int .i64 (n : Int)) ∧ w = w' := by
  go_enter Tryz.func280, Tryz.ntmps280
  go_wp2
  go_ret
  exact ⟨rfl, rfl⟩
theorem c_sizeEdit (A : Option Addr) (n c : Nat) (w : World) (h : n ≤ 9223372036854775807) : Calls Tryz.prog 88 #[.slice A n c] w fun e w' => e = .returned (.int .i64 (n : Int)) ∧ w = w' := by
  go_enter Tryz.func88, Tryz.ntmps88
  go_wp2
  go_ret
  exact ⟨rfl, rfl⟩
set_option maxHeartbeats 2000000 in
set_option maxRecDepth 20000 in
theorem c_IsName (s : ByteArray) (w : World) : Calls Tryz.prog 216 #[.string s] w fun e w' => e = .returned (.bool (tf (NameOk s))) ∧ w = w' := by
  by_cases h1 : 1 ≤ s.size
  rotate_left
  · go_enter Tryz.func216, Tryz.ntmps216
    go_wp2
    go_ret
    exact ⟨ret_bool (tf_no fun h => h1 h.some_).symm, rfl⟩
  by_cases h2 : s.size ≤ 10
  rotate_left
  · go_enter Tryz.func216, Tryz.ntmps216
    go_wp2
    go_ret
    exact ⟨ret_bool (tf_no fun h => h2 h.few).symm, rfl⟩
  go_enter Tryz.func216, Tryz.ntmps216
  go_wp2
  go_loop [3] (fun i => ∃ k : Nat, k ≤ s.size ∧ i = .int .i64 k ∧ ∀ i, i < k → smallN (bA s i) ∨ (digitN (bA s i) ∧ i ≠ 0)) (fun i => s.size - (intOf i).toNat)
  case atStart => exact ⟨0, Nat.zero_le _, rfl, fun i h => absurd h (by omega)⟩
  case round =>
    obtain ⟨k, hk, rfl, hs⟩ := hrel
    have HS := hide hs; clear hs
    by_cases hlt : k < s.size
    · have hb := bA_lt s k
      have hg := bA_get hlt
      have HX : Sec (∀ p : Prop, p → p) := ⟨fun _ h => h⟩
      generalize hy : bA s k = y at *
      have HY := hide hy; clear hy
      by_cases a1 : 97 ≤ y
      · by_cases a2 : y ≤ 122
        · by_cases a3 : 48 ≤ y
          · by_cases a4 : y ≤ 57
            · omega
            · have n1 : decide ((y : Int) ≤ 122) = true := decide_eq_true (by omega)
              have n2 : decide ((y : Int) ≤ 57) = false := decide_eq_false (by omega)
              go_wp2
              go_round
              case rel => exact ⟨k + 1, by omega, by go_num, fun i hi => by
                by_cases e : i = k
                · subst e; rw [HY.out]; exact .inl ⟨a1, a2⟩
                · exact HS.out i (by omega)⟩
              case measure => simp [intOf]; omega
          · omega
        · by_cases a4 : y ≤ 57
          · omega
          · have n1 : decide ((y : Int) ≤ 122) = false := decide_eq_false (by omega)
            have n2 : decide ((y : Int) ≤ 57) = false := decide_eq_false (by omega)
            go_wp2
            go_ret
            exact ⟨ret_bool (tf_no fun h => by rcases h.each k hlt with h | h <;> rw [HY.out] at h <;> (simp only [smallN, digitN] at h; omega)).symm, rfl⟩
      · by_cases a3 : 48 ≤ y
        · by_cases a4 : y ≤ 57
          · have n2 : decide ((y : Int) ≤ 57) = true := decide_eq_true (by omega)
            by_cases a5 : k = 0
            · subst a5
              go_wp2
              go_ret
              exact ⟨ret_bool (tf_no fun h => by rcases h.each 0 hlt with h | h <;> rw [HY.out] at h <;> (simp only [smallN, digitN] at h; omega)).symm, rfl⟩
            · have a6 : ((k : Int) == 0) = false := by simp; omega
              have A5 := hide a5; clear a5
              go_wp2
              go_round
              case rel => exact ⟨k + 1, by omega, by go_num, fun i hi => by
                by_cases e : i = k
                · subst e; rw [HY.out]; exact .inr ⟨⟨a3, a4⟩, A5.out⟩
                · exact HS.out i (by omega)⟩
              case measure => simp [intOf]; omega
          · have n2 : decide ((y : Int) ≤ 57) = false := decide_eq_false (by omega)
            go_wp2
            go_ret
            exact ⟨ret_bool (tf_no fun h => by rcases h.each k hlt with h | h <;> rw [HY.out] at h <;> (simp only [smallN, digitN] at h; omega)).symm, rfl⟩
        · go_wp2
          go_ret
          exact ⟨ret_bool (tf_no fun h => by rcases h.each k hlt with h | h <;> rw [HY.out] at h <;> (simp only [smallN, digitN] at h; omega)).symm, rfl⟩
    · go_wp2
      go_ret
      exact ⟨ret_bool (tf_yes ⟨h1, h2, fun i hi => HS.out i (by omega)⟩).symm, rfl⟩
theorem befS_zero (l : List GSend) (p : Int) : befS l p 0 = p := rfl
theorem befS_succ {l : List GSend} {p : Int} {k : Nat} {y : GSend} (h : l[k]? = some y) : befS l p (k + 1) = y.fTo := by
  unfold befS
  rw [if_neg (by omega), Nat.add_sub_cancel, List.getD_eq_getElem?_getD, h]; rfl
set_option maxHeartbeats 2000000 in
set_option maxRecDepth 20000 in
theorem c_areSends (v : Value) (xs : List GSend) (p n : Int) (w : World) (p0 : 0 ≤ p) (p1 : p ≤ 1048576) (n0 : 0 ≤ n) (n1 : n ≤ 1048576) (hr : T.rd w (T.sl 148 2 (xs.map GSend.t)) [v]) : Calls Tryz.prog 217 #[v, .int .i64 p, .int .i64 n] w fun e w' => e = .returned (.bool (tf (SendsOk xs p n))) ∧ Below w.heap.size w w' := by
  obtain ⟨A, cap, rfl, hl, hc, hx⟩ := T.rd_openG hr
  have HX := hide hx; clear hx hr
  go_enter Tryz.func217, Tryz.ntmps217
  go_wp2
  go_loopw [7, 13] (fun b i wr => ∃ (k : Nat) (bf : Int), k ≤ xs.length ∧ i = .int .i64 k ∧ b = .int .i64 bf ∧ bf = befS xs p k ∧ 0 ≤ bf ∧ bf ≤ 1048576 ∧ Upto xs (fun i x => inB x.fTo (befS xs p i + 1) (n - 1) = true ∧ Smp x.fGain) k ∧ Below w.heap.size w wr) (fun _ i _ => xs.length - (intOf i).toNat)
  case atStart => exact ⟨0, p, Nat.zero_le _, rfl, rfl, rfl, p0, p1, Upto.zero, Below.refl _ _⟩
  case round =>
    obtain ⟨k, bf, hk, rfl, rfl, hbf, b0, b1, hs, hbw⟩ := hrel
    have HS := hide hs; have HB := hide hbw; have HBF := hide hbf; clear hs hbw hbf
    by_cases hlt : k < xs.length
    · have hgk := List.getElem?_eq_getElem hlt
      obtain ⟨b, off, cs, rfl, hb, hcs, hcell⟩ := HX.out k xs[k] hgk
      generalize xs[k] = y at *
      have HG := hide hgk; clear hgk
      obtain rfl := GSend.rd_open (show T.rds _ _ _ by simpa only [GSend.t, T.rd] using hcs)
      have d0 := (HB.out.cell hb).trans (hcell 0 (.int .i64 y.fTo) rfl)
      have d1 := (HB.out.cell hb).trans (hcell 1 (.int .i64 y.fGain) rfl)
      rw [show off + (k * 2 + 0) = off + k * 2 by omega] at d0
      rw [show off + (k * 2 + 1) = off + k * 2 + 1 by omega] at d1
      clear hcs hcell
      have hq : b < wr.heap.size := Nat.lt_of_lt_of_le hb HB.out.size
      have hB := HB.out; have hsz := HB.out.size
      by_cases q1 : inB y.fTo (bf + 1) (n - 1) = true
      rotate_left
      · have q1' : inB y.fTo (bf + 1) (n - 1) = false := by simpa using q1
        go_wp2_with (first | (go_at_call 74; refine (c_within _ _ _ _).mono ?_; rintro e w' ⟨rfl, rfl⟩) | (go_at_call 206; refine (c_isSample _ _).mono ?_; rintro e w' ⟨rfl, rfl⟩))
        go_ret
        exact ⟨ret_bool (tf_no fun h => by have := (h.each k y HG.out).1; rw [← HBF.out] at this; exact q1 this).symm, (by repeat (first | with_reducible exact Below.refl _ _ | with_reducible assumption | with_reducible refine Below.setCell ?_ (by first | omega | (simp; done) | (simp; omega)) _ | with_reducible refine Below.alloc ?_ (by first | omega | (simp; done) | (simp; omega)) _ | with_reducible refine Below.drew ?_ | with_reducible refine below_drewN ?_ _ | exact Below.refl _ _ | assumption | refine Below.drew ?_ | refine below_drewN ?_ _ | refine Below.alloc ?_ (by first | omega | (simp; done) | (simp; omega)) _ | refine Below.setCell ?_ (by first | omega | (simp; done) | (simp; omega)) _))⟩
      have i1 := inB_iff.1 q1
      by_cases q2 : Smp y.fGain
      rotate_left
      · have q2' : decide (Smp y.fGain) = false := decide_eq_false q2
        have Q2 := hide q2; clear q2
        go_wp2_with (first | (go_at_call 74; refine (c_within _ _ _ _).mono ?_; rintro e w' ⟨rfl, rfl⟩) | (go_at_call 206; refine (c_isSample _ _).mono ?_; rintro e w' ⟨rfl, rfl⟩))
        go_ret
        exact ⟨ret_bool (tf_no fun h => Q2.out (h.each k y HG.out).2).symm, (by repeat (first | with_reducible exact Below.refl _ _ | with_reducible assumption | with_reducible refine Below.setCell ?_ (by first | omega | (simp; done) | (simp; omega)) _ | with_reducible refine Below.alloc ?_ (by first | omega | (simp; done) | (simp; omega)) _ | with_reducible refine Below.drew ?_ | with_reducible refine below_drewN ?_ _ | exact Below.refl _ _ | assumption | refine Below.drew ?_ | refine below_drewN ?_ _ | refine Below.alloc ?_ (by first | omega | (simp; done) | (simp; omega)) _ | refine Below.setCell ?_ (by first | omega | (simp; done) | (simp; omega)) _))⟩
      have q2' : decide (Smp y.fGain) = true := decide_eq_true q2
      have Q2 := hide q2; have Q1 := hide q1; clear q2
      go_wp2_with (first | (go_at_call 74; refine (c_within _ _ _ _).mono ?_; rintro e w' ⟨rfl, rfl⟩) | (go_at_call 206; refine (c_isSample _ _).mono ?_; rintro e w' ⟨rfl, rfl⟩))
      go_roundw
      case rel => exact ⟨k + 1, y.fTo, by omega, by go_num, rfl, (befS_succ HG.out).symm, by omega, by omega, HS.out.step HG.out ⟨by rw [← HBF.out]; exact Q1.out, Q2.out⟩, (by repeat (first | with_reducible exact Below.refl _ _ | with_reducible assumption | with_reducible refine Below.setCell ?_ (by first | omega | (simp; done) | (simp; omega)) _ | with_reducible refine Below.alloc ?_ (by first | omega | (simp; done) | (simp; omega)) _ | with_reducible refine Below.drew ?_ | with_reducible refine below_drewN ?_ _ | exact Below.refl _ _ | assumption | refine Below.drew ?_ | refine below_drewN ?_ _ | refine Below.alloc ?_ (by first | omega | (simp; done) | (simp; omega)) _ | refine Below.setCell ?_ (by first | omega | (simp; done) | (simp; omega)) _))⟩
      case measure => simp [intOf]; omega
    · have hall := hide (HS.out.all (by omega)); clear HS
      have hB := HB.out
      by_cases hp : p = n - 1
      · by_cases hz : xs.length = 0
        · have z1 : ((xs.length : Int) == 0) = true := beqI_t (by omega)
          have HZ := hide hz; have HP := hide hp; have z2 : (p == n - 1) = true := by simp [hp]
          clear hz hp
          go_wp2
          go_ret
          exact ⟨ret_bool (tf_yes ⟨hall.out, fun _ => HZ.out, fun h => absurd HP.out h⟩).symm, HB.out⟩
        · have z1 : ((xs.length : Int) == 0) = false := beqI_f (by omega)
          have HZ := hide hz; have HP := hide hp; have z2 : (p == n - 1) = true := by simp [hp]
          clear hz hp
          go_wp2
          go_ret
          exact ⟨ret_bool (tf_no fun h => HZ.out (h.last HP.out)).symm, HB.out⟩
      · have z2 : (p == n - 1) = false := by simp [hp]
        have HP := hide hp; clear hp
        go_wp2_with (first | (go_at_call 74; refine (c_within _ _ _ _).mono ?_; rintro e w' ⟨rfl, rfl⟩) | (go_at_call 224; refine (c_sizeSend _ _ _ _ (by omega)).mono ?_; rintro e w' ⟨rfl, rfl⟩))
        go_ret
        exact ⟨ret_bool (by
          by_cases hz : 1 ≤ xs.length ∧ xs.length ≤ 4
          · rw [tf_yes ⟨hall.out, fun h => absurd h HP.out, fun _ => hz⟩]; exact inB_iff.2 (by omega)
          · rw [tf_no fun h => hz (h.few HP.out)]; exact inB_false.2 (by omega)), HB.out⟩
end Go.Proofs.YtfifcnojkjjnkaaGreat
