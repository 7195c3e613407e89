/- Contracts: what is valid, by the program: names, sends, mixers, tracks. Contracts: what is valid, by the program: tracks, mixers. -/
import Derived.Test.YteiflbhcehajkaaGreatDoorQAjExactSessionText
import Derived.Maps.Own
set_option linter.unusedVariables false
set_option linter.unusedSimpArgs false
section
namespace Go.Proofs.YteiflbhcehajkaaGreatDoor
open Go.RowKit Go.WideMaps Go.Maps
theorem c_sizeStrip (A : Option Addr) (n c : Nat) (w : World) (h : n ≤ 9223372036854775807) : Calls Tryz.prog 69 #[.slice A n c] w fun e w' => e = .returned (.int .i64 (n : Int)) ∧ w = w' := by
  go_enter Tryz.func69, Tryz.ntmps69
  go_wp2
  go_ret
  exact ⟨rfl, rfl⟩
theorem c_sizePatch (A : Option Addr) (n c : Nat) (w : World) (h : n ≤ 9223372036854775807) : Calls Tryz.prog 74 #[.slice A n c] w fun e w' => e = .returned (.int .i64 (n : Int)) ∧ w = w' := by
  go_enter Tryz.func74, Tryz.ntmps74
  go_wp2
  go_ret
  exact ⟨rfl, rfl⟩
theorem c_sizeLL (A : Option Addr) (n c : Nat) (w : World) (h : n ≤ 9223372036854775807) : Calls Tryz.prog 48 #[.slice A n c] w fun e w' => e = .returned (.int .i64 (n : Int)) ∧ w = w' := by
  go_enter Tryz.func48, Tryz.ntmps48
  go_wp2
  go_ret
  exact ⟨rfl, rfl⟩
theorem c_sizeSend (A : Option Addr) (n c : Nat) (w : World) (h : n ≤ 9223372036854775807) : Calls Tryz.prog 170 #[.slice A n c] w fun e w' => e = .returned (.int .i64 (n : Int)) ∧ w = w' := by
  go_enter Tryz.func170, Tryz.ntmps170
  go_wp2
  go_ret
  exact ⟨rfl, rfl⟩
theorem c_sizeNode (A : Option Addr) (n c : Nat) (w : World) (h : n ≤ 9223372036854775807) : Calls Tryz.prog 207 #[.slice A n c] w fun e w' => e = .returned (.int .i64 (n : Int)) ∧ w = w' := by
  go_enter Tryz.func207, Tryz.ntmps207
  go_wp2
  go_ret
  exact ⟨rfl, rfl⟩
set_option maxHeartbeats 2000000 in
set_option maxRecDepth 20000 in
theorem c_IsName (s : ByteArray) (w : World) : Calls Tryz.prog 121 #[.string s] w fun e w' => e = .returned (.bool (tf (NameOk s))) ∧ w = w' := by
  by_cases h1 : 1 ≤ s.size
  rotate_left
  · go_enter Tryz.func121, Tryz.ntmps121
    go_wp2
    go_ret
    exact ⟨ret_bool (tf_no fun h => h1 h.some_).symm, rfl⟩
  by_cases h2 : s.size ≤ 10
  rotate_left
  · go_enter Tryz.func121, Tryz.ntmps121
    go_wp2
    go_ret
    exact ⟨ret_bool (tf_no fun h => h2 h.few).symm, rfl⟩
  go_enter Tryz.func121, Tryz.ntmps121
  go_wp2
  go_loop [3] (fun i => ∃ k : Nat, k ≤ s.size ∧ i = .int .i64 k ∧ ∀ i, i < k → smallN (bA s i) ∨ (digitN (bA s i) ∧ i ≠ 0)) (fun i => s.size - (intOf i).toNat)
  case atStart => exact ⟨0, Nat.zero_le _, rfl, fun i h => absurd h (by omega)⟩
  case round =>
    obtain ⟨k, hk, rfl, hs⟩ := hrel
    have HS := hide hs; clear hs
    by_cases hlt : k < s.size
    · have hb := bA_lt s k
      have hg := bA_get hlt
      have HX : Sec (∀ p : Prop, p → p) := ⟨fun _ h => h⟩
      generalize hy : bA s k = y at *
      have HY := hide hy; clear hy
      by_cases a1 : 97 ≤ y
      · by_cases a2 : y ≤ 122
        · by_cases a3 : 48 ≤ y
          · by_cases a4 : y ≤ 57
            · omega
            · have n1 : decide ((y : Int) ≤ 122) = true := decide_eq_true (by omega)
              have n2 : decide ((y : Int) ≤ 57) = false := decide_eq_false (by omega)
              go_wp2
              go_round
              case rel => exact ⟨k + 1, by omega, by go_num, fun i hi => by
                by_cases e : i = k
                · subst e; rw [HY.out]; exact .inl ⟨a1, a2⟩
                · exact HS.out i (by omega)⟩
              case measure => simp [intOf]; omega
          · omega
        · by_cases a4 : y ≤ 57
          · omega
          · have n1 : decide ((y : Int) ≤ 122) = false := decide_eq_false (by omega)
            have n2 : decide ((y : Int) ≤ 57) = false := decide_eq_false (by omega)
            go_wp2
            go_ret
            exact ⟨ret_bool (tf_no fun h => by rcases h.each k hlt with h | h <;> rw [HY.out] at h <;> (simp only [smallN, digitN] at h; omega)).symm, rfl⟩
      · by_cases a3 : 48 ≤ y
        · by_cases a4 : y ≤ 57
          · have n2 : decide ((y : Int) ≤ 57) = true := decide_eq_true (by omega)
            by_cases a5 : k = 0
            · subst a5
              go_wp2
              go_ret
              exact ⟨ret_bool (tf_no fun h => by rcases h.each 0 hlt with h | h <;> rw [HY.out] at h <;> (simp only [smallN, digitN] at h; omega)).symm, rfl⟩
            · have a6 : ((k : Int) == 0) = false := by simp; omega
              have A5 := hide a5; clear a5
              go_wp2
              go_round
              case rel => exact ⟨k + 1, by omega, by go_num, fun i hi => by
                by_cases e : i = k
                · subst e; rw [HY.out]; exact .inr ⟨⟨a3, a4⟩, A5.out⟩
                · exact HS.out i (by omega)⟩
              case measure => simp [intOf]; omega
          · have n2 : decide ((y : Int) ≤ 57) = false := decide_eq_false (by omega)
            go_wp2
            go_ret
            exact ⟨ret_bool (tf_no fun h => by rcases h.each k hlt with h | h <;> rw [HY.out] at h <;> (simp only [smallN, digitN] at h; omega)).symm, rfl⟩
        · go_wp2
          go_ret
          exact ⟨ret_bool (tf_no fun h => by rcases h.each k hlt with h | h <;> rw [HY.out] at h <;> (simp only [smallN, digitN] at h; omega)).symm, rfl⟩
    · go_wp2
      go_ret
      exact ⟨ret_bool (tf_yes ⟨h1, h2, fun i hi => HS.out i (by omega)⟩).symm, rfl⟩
theorem befS_succ {l : List GSend} {p : Int} {k : Nat} {y : GSend} (h : l[k]? = some y) : befS l p (k + 1) = y.fTo := by
  unfold befS
  rw [if_neg (by omega), Nat.add_sub_cancel, List.getD_eq_getElem?_getD, h]; rfl
set_option maxHeartbeats 2000000 in
set_option maxRecDepth 20000 in
theorem c_areSends (v : Value) (xs : List GSend) (p n : Int) (w : World) (p0 : 0 ≤ p) (p1 : p ≤ 1048576) (n0 : 0 ≤ n) (n1 : n ≤ 1048576) (hr : T.rd w (T.sl 203 2 (xs.map GSend.t)) [v]) : Calls Tryz.prog 122 #[v, .int .i64 p, .int .i64 n] w fun e w' => e = .returned (.bool (tf (SendsOk xs p n))) ∧ Below w.heap.size w w' := by
  obtain ⟨A, cap, rfl, hl, hc, hx⟩ := T.rd_openG hr
  have HX := hide hx; clear hx hr
  go_enter Tryz.func122, Tryz.ntmps122
  go_wp2
  go_loopw [7, 13] (fun b i wr => ∃ (k : Nat) (bf : Int), k ≤ xs.length ∧ i = .int .i64 k ∧ b = .int .i64 bf ∧ bf = befS xs p k ∧ 0 ≤ bf ∧ bf ≤ 1048576 ∧ Upto xs (fun i x => inB x.fTo (befS xs p i + 1) (n - 1) = true ∧ Smp x.fGain) k ∧ Below w.heap.size w wr) (fun _ i _ => xs.length - (intOf i).toNat)
  case atStart => exact ⟨0, p, Nat.zero_le _, rfl, rfl, rfl, p0, p1, Upto.zero, Below.refl _ _⟩
  case round =>
    obtain ⟨k, bf, hk, rfl, rfl, hbf, b0, b1, hs, hbw⟩ := hrel
    have HS := hide hs; have HB := hide hbw; have HBF := hide hbf; clear hs hbw hbf
    by_cases hlt : k < xs.length
    · have hgk := List.getElem?_eq_getElem hlt
      obtain ⟨b, off, cs, rfl, hb, hcs, hcell⟩ := HX.out k xs[k] hgk
      generalize xs[k] = y at *
      have HG := hide hgk; clear hgk
      obtain rfl := GSend.rd_open (show T.rds _ _ _ by simpa only [GSend.t, T.rd] using hcs)
      have d0 := (HB.out.cell hb).trans (hcell 0 (.int .i64 y.fTo) rfl)
      have d1 := (HB.out.cell hb).trans (hcell 1 (.int .i64 y.fGain) rfl)
      rw [show off + (k * 2 + 0) = off + k * 2 by omega] at d0
      rw [show off + (k * 2 + 1) = off + k * 2 + 1 by omega] at d1
      clear hcs hcell
      have hq : b < wr.heap.size := Nat.lt_of_lt_of_le hb HB.out.size
      have hB := HB.out; have hsz := HB.out.size
      by_cases q1 : inB y.fTo (bf + 1) (n - 1) = true
      rotate_left
      · have q1' : inB y.fTo (bf + 1) (n - 1) = false := by simpa using q1
        go_wp2_with (first | (go_at_call 70; refine (c_within _ _ _ _).mono ?_; rintro e w' ⟨rfl, rfl⟩) | (go_at_call 169; refine (c_isSample _ _).mono ?_; rintro e w' ⟨rfl, rfl⟩))
        go_ret
        exact ⟨ret_bool (tf_no fun h => by have := (h.each k y HG.out).1; rw [← HBF.out] at this; exact q1 this).symm, (by repeat (first | with_reducible exact Below.refl _ _ | with_reducible assumption | with_reducible refine Below.setCell ?_ (by first | omega | (simp; done) | (simp; omega)) _ | with_reducible refine Below.alloc ?_ (by first | omega | (simp; done) | (simp; omega)) _ | with_reducible refine Below.drew ?_ | with_reducible refine below_drewN ?_ _ | exact Below.refl _ _ | assumption | refine Below.drew ?_ | refine below_drewN ?_ _ | refine Below.alloc ?_ (by first | omega | (simp; done) | (simp; omega)) _ | refine Below.setCell ?_ (by first | omega | (simp; done) | (simp; omega)) _))⟩
      have i1 := inB_iff.1 q1
      by_cases q2 : Smp y.fGain
      rotate_left
      · have q2' : decide (Smp y.fGain) = false := decide_eq_false q2
        have Q2 := hide q2; clear q2
        go_wp2_with (first | (go_at_call 70; refine (c_within _ _ _ _).mono ?_; rintro e w' ⟨rfl, rfl⟩) | (go_at_call 169; refine (c_isSample _ _).mono ?_; rintro e w' ⟨rfl, rfl⟩))
        go_ret
        exact ⟨ret_bool (tf_no fun h => Q2.out (h.each k y HG.out).2).symm, (by repeat (first | with_reducible exact Below.refl _ _ | with_reducible assumption | with_reducible refine Below.setCell ?_ (by first | omega | (simp; done) | (simp; omega)) _ | with_reducible refine Below.alloc ?_ (by first | omega | (simp; done) | (simp; omega)) _ | with_reducible refine Below.drew ?_ | with_reducible refine below_drewN ?_ _ | exact Below.refl _ _ | assumption | refine Below.drew ?_ | refine below_drewN ?_ _ | refine Below.alloc ?_ (by first | omega | (simp; done) | (simp; omega)) _ | refine Below.setCell ?_ (by first | omega | (simp; done) | (simp; omega)) _))⟩
      have q2' : decide (Smp y.fGain) = true := decide_eq_true q2
      have Q2 := hide q2; have Q1 := hide q1; clear q2
      go_wp2_with (first | (go_at_call 70; refine (c_within _ _ _ _).mono ?_; rintro e w' ⟨rfl, rfl⟩) | (go_at_call 169; refine (c_isSample _ _).mono ?_; rintro e w' ⟨rfl, rfl⟩))
      go_roundw
      case rel => exact ⟨k + 1, y.fTo, by omega, by go_num, rfl, (befS_succ HG.out).symm, by omega, by omega, HS.out.step HG.out ⟨by rw [← HBF.out]; exact Q1.out, Q2.out⟩, (by repeat (first | with_reducible exact Below.refl _ _ | with_reducible assumption | with_reducible refine Below.setCell ?_ (by first | omega | (simp; done) | (simp; omega)) _ | with_reducible refine Below.alloc ?_ (by first | omega | (simp; done) | (simp; omega)) _ | with_reducible refine Below.drew ?_ | with_reducible refine below_drewN ?_ _ | exact Below.refl _ _ | assumption | refine Below.drew ?_ | refine below_drewN ?_ _ | refine Below.alloc ?_ (by first | omega | (simp; done) | (simp; omega)) _ | refine Below.setCell ?_ (by first | omega | (simp; done) | (simp; omega)) _))⟩
      case measure => simp [intOf]; omega
    · have hall := hide (HS.out.all (by omega)); clear HS
      have hB := HB.out
      by_cases hp : p = n - 1
      · by_cases hz : xs.length = 0
        · have z1 : ((xs.length : Int) == 0) = true := beqI_t (by omega)
          have HZ := hide hz; have HP := hide hp; have z2 : (p == n - 1) = true := by simp [hp]
          clear hz hp
          go_wp2
          go_ret
          exact ⟨ret_bool (tf_yes ⟨hall.out, fun _ => HZ.out, fun h => absurd HP.out h⟩).symm, HB.out⟩
        · have z1 : ((xs.length : Int) == 0) = false := beqI_f (by omega)
          have HZ := hide hz; have HP := hide hp; have z2 : (p == n - 1) = true := by simp [hp]
          clear hz hp
          go_wp2
          go_ret
          exact ⟨ret_bool (tf_no fun h => HZ.out (h.last HP.out)).symm, HB.out⟩
      · have z2 : (p == n - 1) = false := by simp [hp]
        have HP := hide hp; clear hp
        go_wp2_with (first | (go_at_call 70; refine (c_within _ _ _ _).mono ?_; rintro e w' ⟨rfl, rfl⟩) | (go_at_call 170; refine (c_sizeSend _ _ _ _ (by omega)).mono ?_; rintro e w' ⟨rfl, rfl⟩))
        go_ret
        exact ⟨ret_bool (by
          by_cases hz : 1 ≤ xs.length ∧ xs.length ≤ 4
          · rw [tf_yes ⟨hall.out, fun h => absurd h HP.out, fun _ => hz⟩]; exact inB_iff.2 (by omega)
          · rw [tf_no fun h => hz (h.few HP.out)]; exact inB_false.2 (by omega)), HB.out⟩
end Go.Proofs.YteiflbhcehajkaaGreatDoor
end
section
namespace Go.Proofs.YteiflbhcehajkaaGreatDoor
open Go.RowKit Go.WideMaps Go.Maps
theorem c_hasSrc1 (x : GClip) (n : Int) (b : Nat) (w : World) (hb : b < w.heap.size) (hc : w.cell? ⟨b, 0, none⟩ = some (.int .i64 n)) : Calls Tryz.prog 125 #[.agg #[.int .i64 x.fSource, .int .i64 x.fFrom, .int .i64 x.fLength, .int .i64 x.fAt, .int .i64 x.fGain], .pointer (some ⟨b, 0, none⟩)] w fun e w' => e = .returned (.bool (decide (n ≤ x.fSource))) ∧ Below w.heap.size w w' := by
  have hB : Below w.heap.size w (w.alloc (.cells #[.int .i64 x.fSource, .int .i64 x.fFrom, .int .i64 x.fLength, .int .i64 x.fAt, .int .i64 x.fGain] 141)) := (Below.refl _ _).alloc (Nat.le_refl _) _
  have HB := hide hB; clear hB
  go_enter Tryz.func125, Tryz.ntmps125
  go_wp2
  go_ret
  exact ⟨rfl, HB.out⟩
set_option maxHeartbeats 2000000 in
set_option maxRecDepth 20000 in
theorem c_idxSrc (v : Value) (xs : List GClip) (n : Int) (b : Nat) (w : World) (hb : b < w.heap.size) (hcb : w.cell? ⟨b, 0, none⟩ = some (.int .i64 n)) (hr : T.rd w (T.sl 141 5 (xs.map GClip.t)) [v]) : Calls Tryz.prog 171 #[v, .func (.func 125) #[] #[.pointer (some ⟨b, 0, none⟩)]] w fun e w' => ∃ r : Int, e = .returned (.int .i64 r) ∧ (0 ≤ r ↔ ∃ x ∈ xs, n ≤ x.fSource) ∧ Below w.heap.size w w' := by
  obtain ⟨A, cap, rfl, hl, hc, hx⟩ := T.rd_openG hr
  have HX := hide hx; clear hx hr
  have BB := hide (And.intro hb hcb); clear hb hcb
  go_enter Tryz.func171, Tryz.ntmps171
  go_wp2
  go_loopw [8] (fun i wr => ∃ k : Nat, k ≤ xs.length ∧ i = .int .i64 k ∧ Upto xs (fun _ x => x.fSource < n) k ∧ Below w.heap.size w wr) (fun i _ => xs.length - (intOf i).toNat)
  case atStart => exact ⟨0, Nat.zero_le _, rfl, Upto.zero, Below.refl _ _⟩
  case round =>
    obtain ⟨k, hk, rfl, hs, hbw⟩ := hrel
    have HS := hide hs; have HB := hide hbw; clear hs hbw
    by_cases hlt : k < xs.length
    · have hgk := List.getElem?_eq_getElem hlt
      obtain ⟨b1, off, cs, rfl, hb1, hcs, hcell⟩ := HX.out k xs[k] hgk
      generalize xs[k] = x at *
      have HG := hide hgk; clear hgk
      obtain rfl := GClip.rd_open (show T.rds _ _ _ by simpa only [GClip.t, T.rd] using hcs)
      have d0 := (HB.out.cell hb1).trans (hcell 0 (.int .i64 x.fSource) rfl)
      have d1 := (HB.out.cell hb1).trans (hcell 1 (.int .i64 x.fFrom) rfl)
      have d2 := (HB.out.cell hb1).trans (hcell 2 (.int .i64 x.fLength) rfl)
      have d3 := (HB.out.cell hb1).trans (hcell 3 (.int .i64 x.fAt) rfl)
      have d4 := (HB.out.cell hb1).trans (hcell 4 (.int .i64 x.fGain) rfl)
      rw [show off + (k * 5 + 0) = off + k * 5 by omega] at d0
      rw [show off + (k * 5 + 1) = off + k * 5 + 1 by omega] at d1
      rw [show off + (k * 5 + 2) = off + k * 5 + 2 by omega] at d2
      rw [show off + (k * 5 + 3) = off + k * 5 + 3 by omega] at d3
      rw [show off + (k * 5 + 4) = off + k * 5 + 4 by omega] at d4
      clear hcs hcell
      by_cases hq : n ≤ x.fSource
      · have hd : decide (n ≤ x.fSource) = true := decide_eq_true hq
        have HQ := hide hq; clear hq
        go_wp2_with (go_at_call 125; refine (c_hasSrc1 x n b _ (Nat.lt_of_lt_of_le BB.out.1 HB.out.size) ((HB.out.cell BB.out.1).trans BB.out.2)).mono ?_; rintro e w3 ⟨rfl, hb3⟩; rw [hd])
        have HB3 := hide (bthen HB.out HB.out.size hb3); clear hb3
        go_wp2
        go_ret
        exact ⟨_, rfl, ⟨fun _ => ⟨x, List.mem_of_getElem? HG.out, HQ.out⟩, fun _ => by omega⟩, HB3.out⟩
      · have hd : decide (n ≤ x.fSource) = false := decide_eq_false hq
        have HQ := hide hq; clear hq
        go_wp2_with (go_at_call 125; refine (c_hasSrc1 x n b _ (Nat.lt_of_lt_of_le BB.out.1 HB.out.size) ((HB.out.cell BB.out.1).trans BB.out.2)).mono ?_; rintro e w3 ⟨rfl, hb3⟩; rw [hd])
        have HB3 := hide (bthen HB.out HB.out.size hb3); clear hb3
        go_wp2
        go_roundw
        case rel => exact ⟨k + 1, by omega, by go_num, HS.out.step HG.out (by have := HQ.out; omega), HB3.out⟩
        case measure => simp [intOf]; omega
    · have hall := hide (HS.out.all (by omega)); clear HS
      go_wp2
      go_ret
      exact ⟨-1, rfl, ⟨fun h => absurd h (by omega), fun ⟨x, hx, hp⟩ => by
        obtain ⟨i, hi, rfl⟩ := List.mem_iff_getElem.1 hx
        have := hall.out i _ (List.getElem?_eq_getElem hi); omega⟩, HB.out⟩
set_option maxHeartbeats 2000000 in
set_option maxRecDepth 20000 in
theorem c_anySrc (v : Value) (xs : List GClip) (n : Int) (b : Nat) (w : World) (hb : b < w.heap.size) (hcb : w.cell? ⟨b, 0, none⟩ = some (.int .i64 n)) (hr : T.rd w (T.sl 141 5 (xs.map GClip.t)) [v]) : Calls Tryz.prog 124 #[v, .func (.func 125) #[] #[.pointer (some ⟨b, 0, none⟩)]] w fun e w' => e = .returned (.bool (tf (∃ x ∈ xs, n ≤ x.fSource))) ∧ Below w.heap.size w w' := by
  have HR := hide hr; have BB := hide (And.intro hb hcb); clear hb hcb
  obtain ⟨A, cap, rfl, hl, hc, hx⟩ := T.rd_openG hr
  clear hx hr
  go_enter Tryz.func124, Tryz.ntmps124
  go_wp2_with (go_at_call 171; refine (c_idxSrc _ xs n b _ BB.out.1 BB.out.2 HR.out).mono ?_; rintro e w3 ⟨r, rfl, hiff, hb3⟩; have HI := hide hiff; have H3 := hide hb3; clear hiff hb3)
  go_ret
  exact ⟨ret_bool (by rw [← tf_dec]; exact tf_iff HI.out), H3.out⟩
set_option maxHeartbeats 2000000 in
set_option maxRecDepth 20000 in
theorem c_hasSources (x : GTrack) (cs : List Value) (n : Int) (w : World) (h : T.rds w x.fs cs) : Calls Tryz.prog 76 #[.agg cs.toArray, .int .i64 n] w fun e w' => e = .returned (.bool (tf (∀ c ∈ x.fClips, c.fSource < n))) ∧ Below w.heap.size w w' := by
  obtain ⟨v0, rfl, h0⟩ := GTrack.rd_open h
  clear h
  have R0 := hide h0; obtain ⟨va0, vc0, rfl, vl0, vm0, vx0⟩ := T.rd_openG h0
  have HX0 := hide vx0; clear vx0 h0
  have HB0 := hide (show Below w.heap.size w (w.alloc (.cells #[(.slice va0 x.fClips.length vc0)] 114)) from (Below.refl _ _).alloc (Nat.le_refl _) _)
  have HK0 := hide (Bk.born w 114 #[(.slice va0 x.fClips.length vc0)])
  have hmf : ∀ (fn : Fn) (first cap : Array Value) (w : World), (Instr.makeFunc fn first cap).run Tryz.prog w = .ok (.func fn first cap) w := fun _ _ _ _ => by simp [go_sem, Instr.makeFunc]
  have hb1 : Below w.heap.size w ((w.alloc (.cells #[(.slice va0 x.fClips.length vc0)] 114)).alloc (.cells #[.int .i64 n] 2)) := HB0.out.alloc (by simp) _
  have H1 := hide hb1; clear hb1
  have hsz1 : ((w.alloc (.cells #[(.slice va0 x.fClips.length vc0)] 114)).alloc (.cells #[.int .i64 n] 2)).heap.size = w.heap.size + 2 := by simp
  have Hsz := hide hsz1; clear hsz1
  go_enter Tryz.func76, Tryz.ntmps76
  go_wp2_with (go_at_call 124; refine (c_anySrc _ x.fClips n (w.heap.size + 1) _ (by rw [Hsz.out]; omega) (by simp) (T.rd_below R0.out H1.out)).mono ?_; rintro e w3 ⟨rfl, hb3⟩; have H3 := hide (bthen H1.out (by rw [Hsz.out]; omega) hb3); clear hb3)
  go_ret
  exact ⟨ret_bool (by
    by_cases hc : ∃ c ∈ x.fClips, n ≤ c.fSource
    · rw [tf_yes hc, tf_no (fun h => by obtain ⟨c, hc1, hc2⟩ := hc; have := h c hc1; omega)]; rfl
    · rw [tf_no hc, tf_yes (fun c h => Int.not_le.1 fun k => hc ⟨c, h, k⟩)]; rfl), H3.out⟩
set_option maxHeartbeats 2000000 in
set_option maxRecDepth 20000 in
theorem c_isTrack (x : GTrack) (cs : List Value) (w : World) (h : T.rds w x.fs cs) : Calls Tryz.prog 75 #[.agg cs.toArray] w fun e w' => e = .returned (.bool (tf (TrackOk x))) ∧ Below w.heap.size w w' := by
  obtain ⟨v0, rfl, h0⟩ := GTrack.rd_open h
  clear h
  have R0 := hide h0; obtain ⟨va0, vc0, rfl, vl0, vm0, vx0⟩ := T.rd_openG h0
  have HX0 := hide vx0; clear vx0 h0
  have HB0 := hide (show Below w.heap.size w (w.alloc (.cells #[(.slice va0 x.fClips.length vc0)] 114)) from (Below.refl _ _).alloc (Nat.le_refl _) _)
  have HK0 := hide (Bk.born w 114 #[(.slice va0 x.fClips.length vc0)])
  go_enter Tryz.func75, Tryz.ntmps75
  go_wp2
  go_loopw [8] (fun i wr => ∃ k : Nat, k ≤ x.fClips.length ∧ i = .int .i64 k ∧ Upto x.fClips (fun i c => ClipOk c ∧ ∀ p, 0 < i → x.fClips[i - 1]? = some p → p.fAt ≤ c.fAt) k ∧ Below (w.alloc (.cells #[(.slice va0 x.fClips.length vc0)] 114)).heap.size (w.alloc (.cells #[(.slice va0 x.fClips.length vc0)] 114)) wr) (fun i _ => x.fClips.length - (intOf i).toNat)
  case atStart => exact ⟨0, Nat.zero_le _, rfl, Upto.zero, Below.refl _ _⟩
  case round =>
    obtain ⟨k, hk, rfl, hs, hbw⟩ := hrel
    have HS := hide hs; have HW := hide hbw; have HB := hide (bthen HB0.out HB0.out.size hbw); have HK := hide (HK0.out.below hbw HK0.out.lt); clear hs hbw
    have ka := HK.out.cell; have la := HK.out.lt
    by_cases hlt : k < x.fClips.length
    rotate_left
    · have hall := hide (HS.out.all (by omega)); clear HS
      by_cases h12 : x.fClips.length ≤ 12
      · go_wp2
        go_ret
        exact ⟨ret_bool (by rw [tf_yes ⟨hall.out, h12⟩]; exact decide_eq_true (by omega)), HB.out⟩
      · go_wp2
        go_ret
        exact ⟨ret_bool (by rw [tf_no fun h => h12 h.few]; exact decide_eq_false (by omega)), HB.out⟩
    have hgk := List.getElem?_eq_getElem hlt
    obtain ⟨b1, off, cs1, hA, hb1, hcs, hcell⟩ := HX0.out k x.fClips[k] hgk
    subst hA
    generalize x.fClips[k] = y at *
    have HG := hide hgk; clear hgk
    obtain rfl := GClip.rd_open (show T.rds _ _ _ by simpa only [GClip.t, T.rd] using hcs)
    have d0 := (HB.out.cell hb1).trans (hcell 0 (.int .i64 y.fSource) rfl)
    have d1 := (HB.out.cell hb1).trans (hcell 1 (.int .i64 y.fFrom) rfl)
    have d2 := (HB.out.cell hb1).trans (hcell 2 (.int .i64 y.fLength) rfl)
    have d3 := (HB.out.cell hb1).trans (hcell 3 (.int .i64 y.fAt) rfl)
    have d4 := (HB.out.cell hb1).trans (hcell 4 (.int .i64 y.fGain) rfl)
    rw [show off + (k * 5 + 0) = off + k * 5 by omega] at d0
    rw [show off + (k * 5 + 1) = off + k * 5 + 1 by omega] at d1
    rw [show off + (k * 5 + 2) = off + k * 5 + 2 by omega] at d2
    rw [show off + (k * 5 + 3) = off + k * 5 + 3 by omega] at d3
    rw [show off + (k * 5 + 4) = off + k * 5 + 4 by omega] at d4
    clear hcs hcell
    have hq1 : b1 < wr.heap.size := Nat.lt_of_lt_of_le hb1 HB.out.size
    have hT0 := @GClip.rd_mk
    clear hT0
    by_cases hk0 : k = 0
    · have g0' : decide (0 < k) = false := decide_eq_false (by omega)
      have K0 := hide hk0; clear hk0
      by_cases q1 : ClipOk y
      · have a1 := tf_yes q1
        have Q1 := hide q1; clear q1
        have hWb : Below wr.heap.size wr (wr.alloc (.cells #[.int .i64 y.fSource, .int .i64 y.fFrom, .int .i64 y.fLength, .int .i64 y.fAt, .int .i64 y.fGain] 141)) := (Below.refl _ _).alloc (Nat.le_refl _) _
        have hNb := Bk.born wr 141 #[.int .i64 y.fSource, .int .i64 y.fFrom, .int .i64 y.fLength, .int .i64 y.fAt, .int .i64 y.fGain]
        go_wp2
        generalize wr.alloc (.cells #[.int .i64 y.fSource, .int .i64 y.fFrom, .int .i64 y.fLength, .int .i64 y.fAt, .int .i64 y.fGain] 141) = W at *
        have HWb := hide hWb; have HNb := hide hNb; have HKW := hide (HK.out.below hWb HK.out.lt)
        have g0 := bel_bk hNb; have g1 := bel_bk HKW.out
        clear hWb hNb
        refine wp_region_bel (by kernel_rfl) (by kernel_rfl) ?_
        repeat (first | go_big_quiet_skip | (go_big_quiet_want; go_big_quiet_op; first | go_big_quiet_on | (apply Exists.intro; refine ⟨fun _ => ?_, ?_⟩; (· (go_at_call 123; exact Calls.quiet_bel ((c_isClip y _ _ GClip.rd_mk).mono (fun e w' h => by rw [a1] at h; exact h)))); go_big_quiet_on)))
        refine wpQuiet_nil ?_
        rintro w9 ⟨uu, rfl⟩
        have hb9 := bel_below W uu
        generalize bel W uu = w9 at *
        have HC := hide (bthen HWb.out HWb.out.size hb9); have HC2 := hide (bthen HB.out HB.out.size HC.out); have HC3 := hide (bthen HW.out HW.out.size HC.out)
        clear hb9 g0 g1
        go_wp2
        go_roundw
        case rel => exact ⟨k + 1, by omega, by go_num, HS.out.step HG.out ⟨Q1.out, fun p h => by have := K0.out; omega⟩, HC3.out⟩
        case measure => simp [intOf]; omega
      · have a1 := tf_no q1
        have Q1 := hide q1; clear q1
        have hWb : Below wr.heap.size wr (wr.alloc (.cells #[.int .i64 y.fSource, .int .i64 y.fFrom, .int .i64 y.fLength, .int .i64 y.fAt, .int .i64 y.fGain] 141)) := (Below.refl _ _).alloc (Nat.le_refl _) _
        have hNb := Bk.born wr 141 #[.int .i64 y.fSource, .int .i64 y.fFrom, .int .i64 y.fLength, .int .i64 y.fAt, .int .i64 y.fGain]
        go_wp2
        generalize wr.alloc (.cells #[.int .i64 y.fSource, .int .i64 y.fFrom, .int .i64 y.fLength, .int .i64 y.fAt, .int .i64 y.fGain] 141) = W at *
        have HWb := hide hWb; have HNb := hide hNb; have HKW := hide (HK.out.below hWb HK.out.lt)
        have g0 := bel_bk hNb; have g1 := bel_bk HKW.out
        clear hWb hNb
        refine wp_region_bel (by kernel_rfl) (by kernel_rfl) ?_
        repeat (first | go_big_quiet_skip | (go_big_quiet_want; go_big_quiet_op; first | go_big_quiet_on | (apply Exists.intro; refine ⟨fun _ => ?_, ?_⟩; (· (go_at_call 123; exact Calls.quiet_bel ((c_isClip y _ _ GClip.rd_mk).mono (fun e w' h => by rw [a1] at h; exact h)))); go_big_quiet_on)))
        refine wpQuiet_nil ?_
        rintro w9 ⟨uu, rfl⟩
        have hb9 := bel_below W uu
        generalize bel W uu = w9 at *
        have HC := hide (bthen HWb.out HWb.out.size hb9); have HC2 := hide (bthen HB.out HB.out.size HC.out); have HC3 := hide (bthen HW.out HW.out.size HC.out)
        clear hb9 g0 g1
        go_wp2
        go_ret
        exact ⟨ret_bool (tf_no fun h => Q1.out (h.clips k y HG.out).1).symm, HC2.out⟩
    obtain ⟨j, rfl⟩ : ∃ j, k = j + 1 := ⟨k - 1, by omega⟩
    clear hk0
    have hlj : j < x.fClips.length := by omega
    have hgj := List.getElem?_eq_getElem hlj
    obtain ⟨b2, off2, cs2, hA, hb2, hcs, hcell⟩ := HX0.out j x.fClips[j] hgj
    obtain ⟨rfl, rfl⟩ : b1 = b2 ∧ off = off2 := by injection hA with hA; injection hA with e1 e2; exact ⟨e1, e2⟩
    clear hA
    generalize x.fClips[j] = z at *
    have HJ := hide hgj; clear hgj
    obtain rfl := GClip.rd_open (show T.rds _ _ _ by simpa only [GClip.t, T.rd] using hcs)
    have g0 := (HB.out.cell hb2).trans (hcell 0 (.int .i64 z.fSource) rfl)
    have g1 := (HB.out.cell hb2).trans (hcell 1 (.int .i64 z.fFrom) rfl)
    have g2 := (HB.out.cell hb2).trans (hcell 2 (.int .i64 z.fLength) rfl)
    have g3 := (HB.out.cell hb2).trans (hcell 3 (.int .i64 z.fAt) rfl)
    have g4 := (HB.out.cell hb2).trans (hcell 4 (.int .i64 z.fGain) rfl)
    rw [show off + (j * 5 + 0) = off + j * 5 by omega] at g0
    rw [show off + (j * 5 + 1) = off + j * 5 + 1 by omega] at g1
    rw [show off + (j * 5 + 2) = off + j * 5 + 2 by omega] at g2
    rw [show off + (j * 5 + 3) = off + j * 5 + 3 by omega] at g3
    rw [show off + (j * 5 + 4) = off + j * 5 + 4 by omega] at g4
    clear hcs hcell
    have G3 := hide g3; clear g0 g1 g2 g3 g4
    have n1 : ((j : Int) < (x.fClips.length : Int)) := by omega
    have e1 : IntKind.i64.wrap ((j : Int) + 1 - 1) = (j : Int) := by rw [IntWalk.i64_in _ (by omega)]; omega
    have e2 : IntKind.i64.wrap (j : Int) = (j : Int) := IntWalk.i64_in _ (by omega)
    have n0 : (0 : Int) ≤ (j : Int) := by omega
    by_cases q1 : ClipOk y
    rotate_left
    · have a1 := tf_no q1
      have Q1 := hide q1; clear q1
      have hWb : Below wr.heap.size wr (wr.alloc (.cells #[.int .i64 y.fSource, .int .i64 y.fFrom, .int .i64 y.fLength, .int .i64 y.fAt, .int .i64 y.fGain] 141)) := (Below.refl _ _).alloc (Nat.le_refl _) _
      have hNb := Bk.born wr 141 #[.int .i64 y.fSource, .int .i64 y.fFrom, .int .i64 y.fLength, .int .i64 y.fAt, .int .i64 y.fGain]
      go_wp2
      generalize wr.alloc (.cells #[.int .i64 y.fSource, .int .i64 y.fFrom, .int .i64 y.fLength, .int .i64 y.fAt, .int .i64 y.fGain] 141) = W at *
      have HWb := hide hWb; have HNb := hide hNb; have HKW := hide (HK.out.below hWb HK.out.lt)
      have g0 := bel_bk hNb; have g1 := bel_bk HKW.out
      have g2 := bel_cell ((hWb.cell (World.block_lt_of_cell? wr _ G3.out)).trans G3.out)
      clear hWb hNb
      refine wp_region_bel (by kernel_rfl) (by kernel_rfl) ?_
      repeat (first | go_big_quiet_skip | (go_big_quiet_want; go_big_quiet_op; first | go_big_quiet_on | (apply Exists.intro; refine ⟨fun _ => ?_, ?_⟩; (· (go_at_call 123; exact Calls.quiet_bel ((c_isClip y _ _ GClip.rd_mk).mono (fun e w' h => by rw [a1] at h; exact h)))); go_big_quiet_on)))
      refine wpQuiet_nil ?_
      rintro w9 ⟨uu, rfl⟩
      have hb9 := bel_below W uu
      generalize bel W uu = w9 at *
      have HC := hide (bthen HWb.out HWb.out.size hb9); have HC2 := hide (bthen HB.out HB.out.size HC.out); have HC3 := hide (bthen HW.out HW.out.size HC.out)
      clear hb9 g0 g1 g2
      go_wp2
      go_ret
      exact ⟨ret_bool (tf_no fun h => Q1.out (h.clips (j + 1) y HG.out).1).symm, HC2.out⟩
    have a1 := tf_yes q1
    have Q1 := hide q1; clear q1
    by_cases q2 : y.fAt < z.fAt
    · have Q2 := hide q2
      have hWb : Below wr.heap.size wr (wr.alloc (.cells #[.int .i64 y.fSource, .int .i64 y.fFrom, .int .i64 y.fLength, .int .i64 y.fAt, .int .i64 y.fGain] 141)) := (Below.refl _ _).alloc (Nat.le_refl _) _
      have hNb := Bk.born wr 141 #[.int .i64 y.fSource, .int .i64 y.fFrom, .int .i64 y.fLength, .int .i64 y.fAt, .int .i64 y.fGain]
      go_wp2
      generalize wr.alloc (.cells #[.int .i64 y.fSource, .int .i64 y.fFrom, .int .i64 y.fLength, .int .i64 y.fAt, .int .i64 y.fGain] 141) = W at *
      have HWb := hide hWb; have HNb := hide hNb; have HKW := hide (HK.out.below hWb HK.out.lt)
      have g0 := bel_bk hNb; have g1 := bel_bk HKW.out
      have g2 := bel_cell ((hWb.cell (World.block_lt_of_cell? wr _ G3.out)).trans G3.out)
      clear hWb hNb
      refine wp_region_bel (by kernel_rfl) (by kernel_rfl) ?_
      repeat (first | go_big_quiet_skip | (go_big_quiet_want; go_big_quiet_op; first | go_big_quiet_on | (apply Exists.intro; refine ⟨fun _ => ?_, ?_⟩; (· (go_at_call 123; exact Calls.quiet_bel ((c_isClip y _ _ GClip.rd_mk).mono (fun e w' h => by rw [a1] at h; exact h)))); go_big_quiet_on)))
      refine wpQuiet_nil ?_
      rintro w9 ⟨uu, rfl⟩
      have hb9 := bel_below W uu
      generalize bel W uu = w9 at *
      have HC := hide (bthen HWb.out HWb.out.size hb9); have HC2 := hide (bthen HB.out HB.out.size HC.out); have HC3 := hide (bthen HW.out HW.out.size HC.out)
      clear hb9 g0 g1 g2
      go_wp2
      go_ret
      exact ⟨ret_bool (tf_no fun h => by have := (h.clips (j + 1) y HG.out).2 z (by omega) HJ.out; have := Q2.out; omega).symm, HC2.out⟩
    have hWb : Below wr.heap.size wr (wr.alloc (.cells #[.int .i64 y.fSource, .int .i64 y.fFrom, .int .i64 y.fLength, .int .i64 y.fAt, .int .i64 y.fGain] 141)) := (Below.refl _ _).alloc (Nat.le_refl _) _
    have hNb := Bk.born wr 141 #[.int .i64 y.fSource, .int .i64 y.fFrom, .int .i64 y.fLength, .int .i64 y.fAt, .int .i64 y.fGain]
    go_wp2
    generalize wr.alloc (.cells #[.int .i64 y.fSource, .int .i64 y.fFrom, .int .i64 y.fLength, .int .i64 y.fAt, .int .i64 y.fGain] 141) = W at *
    have HWb := hide hWb; have HNb := hide hNb; have HKW := hide (HK.out.below hWb HK.out.lt)
    have g0 := bel_bk hNb; have g1 := bel_bk HKW.out
    have g2 := bel_cell ((hWb.cell (World.block_lt_of_cell? wr _ G3.out)).trans G3.out)
    clear hWb hNb
    refine wp_region_bel (by kernel_rfl) (by kernel_rfl) ?_
    repeat (first | go_big_quiet_skip | (go_big_quiet_want; go_big_quiet_op; first | go_big_quiet_on | (apply Exists.intro; refine ⟨fun _ => ?_, ?_⟩; (· (go_at_call 123; exact Calls.quiet_bel ((c_isClip y _ _ GClip.rd_mk).mono (fun e w' h => by rw [a1] at h; exact h)))); go_big_quiet_on)))
    refine wpQuiet_nil ?_
    rintro w9 ⟨uu, rfl⟩
    have hb9 := bel_below W uu
    generalize bel W uu = w9 at *
    have HC := hide (bthen HWb.out HWb.out.size hb9); have HC2 := hide (bthen HB.out HB.out.size HC.out); have HC3 := hide (bthen HW.out HW.out.size HC.out)
    clear hb9 g0 g1 g2
    go_wp2
    go_roundw
    case rel => exact ⟨j + 1 + 1, by omega, by go_num, HS.out.step HG.out ⟨Q1.out, fun p _ hp => by rw [Nat.add_sub_cancel, HJ.out] at hp; injection hp with hp; subst hp; omega⟩, HC3.out⟩
    case measure => simp [intOf]; omega
end Go.Proofs.YteiflbhcehajkaaGreatDoor
end
