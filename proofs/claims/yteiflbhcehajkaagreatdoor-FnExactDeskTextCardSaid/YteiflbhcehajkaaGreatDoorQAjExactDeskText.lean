/- Contracts: what is valid, by the program: lists, clips, names, sends. Contracts: check values, two bytes, the head of a store. Contracts: what is valid, by the program: names, sends, mixers, tracks. -/
import Derived.Test.YteiflbhcehajkaaGreatDoorQAiExactDeskText
import Derived.Deep.RegionHeld3
import Derived.Deep.RegionWith
import Derived.Maps.Own
set_option linter.unusedVariables false
set_option linter.unusedSimpArgs false
section
namespace Go.Proofs.YteiflbhcehajkaaGreatDoor
open Go.RowKit
theorem inB_iff {n a b : Int} : inB n a b = true ↔ a ≤ n ∧ n ≤ b := by simp [inB]
theorem inB_not {n a b : Int} (h : inB n a b = false) (k : a ≤ n ∧ n ≤ b) : False := by simp [inB] at h; omega
set_option maxHeartbeats 2000000 in
set_option maxRecDepth 20000 in
theorem c_areIndices (v : Value) (xs : List Int) (n : Int) (w : World) (hr : RdI w v xs) (h0 : 0 ≤ n) (h1 : n ≤ 9223372036854775807) : Calls Tryz.prog 73 #[v, .int .i64 n] w fun e w' => e = .returned (.bool (tf (Idx xs n))) ∧ w = w' := by
  obtain ⟨A, cap, rfl, hl, hc, hx⟩ := hr.open_
  have HX := hide hx; clear hx hr
  go_enter Tryz.func73, Tryz.ntmps73
  go_wp2
  go_loop [9] (fun i => ∃ k : Nat, k ≤ xs.length ∧ i = .int .i64 k ∧ Upto xs (fun _ x => 0 ≤ x ∧ x ≤ n - 1) k) (fun i => xs.length - (intOf i).toNat)
  case atStart => exact ⟨0, Nat.zero_le _, rfl, Upto.zero⟩
  case round =>
    obtain ⟨k, hk, rfl, hs⟩ := hrel
    have HS := hide hs; clear hs
    by_cases hlt : k < xs.length
    · have hgk := List.getElem?_eq_getElem hlt
      obtain ⟨b, off, rfl, hb, hcell⟩ := HX.out k xs[k] hgk
      generalize xs[k] = x at *
      have HG := hide hgk; clear hgk
      by_cases hq : inB x 0 (n - 1) = true
      · go_wp2_with (go_at_call 70; refine (c_within _ _ _ _).mono ?_; rintro e w' ⟨rfl, rfl⟩)
        go_round
        case rel => exact ⟨k + 1, by omega, by go_num, HS.out.step HG.out (inB_iff.1 hq)⟩
        case measure => simp [intOf]; omega
      · have hq' : inB x 0 (n - 1) = false := by simpa using hq
        clear hq
        go_wp2_with (go_at_call 70; refine (c_within _ _ _ _).mono ?_; rintro e w' ⟨rfl, rfl⟩)
        go_ret
        exact ⟨ret_bool (tf_no (fun hh => inB_not hq' (hh k x HG.out))).symm, rfl⟩
    · have hall := hide (HS.out.all (by omega))
      go_wp2
      go_ret
      exact ⟨ret_bool ((tf_yes hall.out).symm), rfl⟩
set_option maxHeartbeats 2000000 in
set_option maxRecDepth 20000 in
theorem c_areSignals (v : Value) (xs : List (List Int)) (w : World) (hr : T.rd w (T.sl 24 1 (xs.map (T.ints 2))) [v]) : Calls Tryz.prog 120 #[v] w fun e w' => e = .returned (.bool (tf (Each xs fun _ l => sigB l = true))) ∧ w = w' := by
  obtain ⟨A, cap, rfl, hl, hc, hx⟩ := T.rd_openG hr
  have HX := hide hx; clear hx hr
  go_enter Tryz.func120, Tryz.ntmps120
  go_wp2
  go_loop [7] (fun i => ∃ k : Nat, k ≤ xs.length ∧ i = .int .i64 k ∧ Upto xs (fun _ l => sigB l = true) k) (fun i => xs.length - (intOf i).toNat)
  case atStart => exact ⟨0, Nat.zero_le _, rfl, Upto.zero⟩
  case round =>
    obtain ⟨k, hk, rfl, hs⟩ := hrel
    have HS := hide hs; clear hs
    by_cases hlt : k < xs.length
    · have hgk := List.getElem?_eq_getElem hlt
      obtain ⟨b, off, cs, rfl, hb, hcs, hcell⟩ := HX.out k xs[k] hgk
      generalize xs[k] = l at *
      have HG := hide hgk; clear hgk
      obtain ⟨v3, rfl⟩ := T.rd_one hcs
      have d0 := hcell 0 v3 rfl
      rw [Nat.mul_one, Nat.add_zero] at d0
      have R := hide (T.rd_ints.1 hcs); clear hcs hcell
      obtain ⟨A3, c3, rfl, l3, m3, x3⟩ := R.out.open_
      clear x3
      by_cases hq : sigB l = true
      · go_wp2_with (go_at_call 100; refine (c_isSignal _ l _ R.out).mono ?_; rintro e w' ⟨rfl, rfl⟩)
        go_round
        case rel => exact ⟨k + 1, by omega, by go_num, HS.out.step HG.out hq⟩
        case measure => simp [intOf]; omega
      · have hq' : sigB l = false := by simpa using hq
        clear hq
        go_wp2_with (go_at_call 100; refine (c_isSignal _ l _ R.out).mono ?_; rintro e w' ⟨rfl, rfl⟩)
        go_ret
        exact ⟨ret_bool (tf_no (fun hh => by rw [hh k l HG.out] at hq'; exact absurd hq' (by simp))).symm, rfl⟩
    · have hall := hide (HS.out.all (by omega)); clear HS
      go_wp2
      go_ret
      exact ⟨ret_bool (tf_yes hall.out).symm, rfl⟩
set_option maxHeartbeats 2000000 in
set_option maxRecDepth 20000 in
theorem c_areSources (v : Value) (xs : List (List Int)) (w : World) (hr : T.rd w (T.sl 24 1 (xs.map (T.ints 2))) [v]) : Calls Tryz.prog 71 #[v] w fun e w' => e = .returned (.bool (tf (SourcesOk xs))) ∧ w = w' := by
  have R := hide hr
  obtain ⟨A, cap, rfl, hl, hc, hx⟩ := T.rd_openG hr
  clear hx hr
  by_cases h6 : xs.length ≤ 6
  · go_enter Tryz.func71, Tryz.ntmps71
    go_wp2_with (go_at_call 120; refine (c_areSignals _ xs _ R.out).mono ?_; rintro e w' ⟨rfl, rfl⟩)
    go_ret
    exact ⟨ret_bool (tf_iff ⟨fun h => ⟨h, h6⟩, fun h => h.each⟩), rfl⟩
  · go_enter Tryz.func71, Tryz.ntmps71
    go_wp2
    go_ret
    exact ⟨ret_bool (tf_no fun h => h6 h.few).symm, rfl⟩
set_option maxHeartbeats 2000000 in
set_option maxRecDepth 20000 in
theorem c_areTables (v : Value) (xs : List (List Int)) (w : World) (hr : T.rd w (T.sl 24 1 (xs.map (T.ints 2))) [v]) : Calls Tryz.prog 208 #[v] w fun e w' => e = .returned (.bool (tf (TablesOk xs))) ∧ w = w' := by
  obtain ⟨A, cap, rfl, hl, hc, hx⟩ := T.rd_openG hr
  have HX := hide hx; clear hx hr
  go_enter Tryz.func208, Tryz.ntmps208
  go_wp2
  go_loop [8] (fun i => ∃ k : Nat, k ≤ xs.length ∧ i = .int .i64 k ∧ Upto xs (fun _ t => (t.length = 2 ∨ t.length = 4 ∨ t.length = 8 ∨ t.length = 16) ∧ smpB t = true) k) (fun i => xs.length - (intOf i).toNat)
  case atStart => exact ⟨0, Nat.zero_le _, rfl, Upto.zero⟩
  case round =>
    obtain ⟨k, hk, rfl, hs⟩ := hrel
    have HS := hide hs; clear hs
    by_cases hlt : k < xs.length
    · have hgk := List.getElem?_eq_getElem hlt
      obtain ⟨b, off, cs, rfl, hb, hcs, hcell⟩ := HX.out k xs[k] hgk
      generalize xs[k] = l at *
      have HG := hide hgk; clear hgk
      obtain ⟨v3, rfl⟩ := T.rd_one hcs
      have d0 := hcell 0 v3 rfl
      rw [Nat.mul_one, Nat.add_zero] at d0
      have R := hide (T.rd_ints.1 hcs); clear hcs hcell
      obtain ⟨A3, c3, rfl, l3, m3, x3⟩ := R.out.open_
      clear x3
      by_cases hn : l.length = 2 ∨ l.length = 4 ∨ l.length = 8 ∨ l.length = 16
      · by_cases hq : smpB l = true
        · rcases hn with hn | hn | hn | hn
          · skip
            have n2 : ((l.length : Int) != 2) = false := by simp; omega
            clear hn
            have hn : l.length = 2 ∨ l.length = 4 ∨ l.length = 8 ∨ l.length = 16 := by simp at n2; omega
            have HN := hide hn; clear hn
            go_wp2_with (go_at_call 150; refine (c_areSamples _ l _ R.out).mono ?_; rintro e w' ⟨rfl, rfl⟩)
            go_round
            case rel => exact ⟨k + 1, by omega, by go_num, HS.out.step HG.out ⟨HN.out, hq⟩⟩
            case measure => simp [intOf]; omega
          · skip
            have n2 : ((l.length : Int) != 2) = true := by simp; omega
            have n4 : ((l.length : Int) != 4) = false := by simp; omega
            clear hn
            have hn : l.length = 2 ∨ l.length = 4 ∨ l.length = 8 ∨ l.length = 16 := by simp at n4; omega
            have HN := hide hn; clear hn
            go_wp2_with (go_at_call 150; refine (c_areSamples _ l _ R.out).mono ?_; rintro e w' ⟨rfl, rfl⟩)
            go_round
            case rel => exact ⟨k + 1, by omega, by go_num, HS.out.step HG.out ⟨HN.out, hq⟩⟩
            case measure => simp [intOf]; omega
          · skip
            have n2 : ((l.length : Int) != 2) = true := by simp; omega
            have n4 : ((l.length : Int) != 4) = true := by simp; omega
            have n8 : ((l.length : Int) != 8) = false := by simp; omega
            clear hn
            have hn : l.length = 2 ∨ l.length = 4 ∨ l.length = 8 ∨ l.length = 16 := by simp at n8; omega
            have HN := hide hn; clear hn
            go_wp2_with (go_at_call 150; refine (c_areSamples _ l _ R.out).mono ?_; rintro e w' ⟨rfl, rfl⟩)
            go_round
            case rel => exact ⟨k + 1, by omega, by go_num, HS.out.step HG.out ⟨HN.out, hq⟩⟩
            case measure => simp [intOf]; omega
          · skip
            have n2 : ((l.length : Int) != 2) = true := by simp; omega
            have n4 : ((l.length : Int) != 4) = true := by simp; omega
            have n8 : ((l.length : Int) != 8) = true := by simp; omega
            have n16 : ((l.length : Int) != 16) = false := by simp; omega
            clear hn
            have hn : l.length = 2 ∨ l.length = 4 ∨ l.length = 8 ∨ l.length = 16 := by simp at n16; omega
            have HN := hide hn; clear hn
            go_wp2_with (go_at_call 150; refine (c_areSamples _ l _ R.out).mono ?_; rintro e w' ⟨rfl, rfl⟩)
            go_round
            case rel => exact ⟨k + 1, by omega, by go_num, HS.out.step HG.out ⟨HN.out, hq⟩⟩
            case measure => simp [intOf]; omega
        · have hq' : smpB l = false := by simpa using hq
          clear hq
          rcases hn with hn | hn | hn | hn
          · skip
            have n2 : ((l.length : Int) != 2) = false := by simp; omega
            clear hn
            go_wp2_with (go_at_call 150; refine (c_areSamples _ l _ R.out).mono ?_; rintro e w' ⟨rfl, rfl⟩)
            go_ret
            exact ⟨ret_bool (tf_no (fun hh => by rw [(hh.each k l HG.out).2] at hq'; exact absurd hq' (by simp))).symm, rfl⟩
          · skip
            have n2 : ((l.length : Int) != 2) = true := by simp; omega
            have n4 : ((l.length : Int) != 4) = false := by simp; omega
            clear hn
            go_wp2_with (go_at_call 150; refine (c_areSamples _ l _ R.out).mono ?_; rintro e w' ⟨rfl, rfl⟩)
            go_ret
            exact ⟨ret_bool (tf_no (fun hh => by rw [(hh.each k l HG.out).2] at hq'; exact absurd hq' (by simp))).symm, rfl⟩
          · skip
            have n2 : ((l.length : Int) != 2) = true := by simp; omega
            have n4 : ((l.length : Int) != 4) = true := by simp; omega
            have n8 : ((l.length : Int) != 8) = false := by simp; omega
            clear hn
            go_wp2_with (go_at_call 150; refine (c_areSamples _ l _ R.out).mono ?_; rintro e w' ⟨rfl, rfl⟩)
            go_ret
            exact ⟨ret_bool (tf_no (fun hh => by rw [(hh.each k l HG.out).2] at hq'; exact absurd hq' (by simp))).symm, rfl⟩
          · skip
            have n2 : ((l.length : Int) != 2) = true := by simp; omega
            have n4 : ((l.length : Int) != 4) = true := by simp; omega
            have n8 : ((l.length : Int) != 8) = true := by simp; omega
            have n16 : ((l.length : Int) != 16) = false := by simp; omega
            clear hn
            go_wp2_with (go_at_call 150; refine (c_areSamples _ l _ R.out).mono ?_; rintro e w' ⟨rfl, rfl⟩)
            go_ret
            exact ⟨ret_bool (tf_no (fun hh => by rw [(hh.each k l HG.out).2] at hq'; exact absurd hq' (by simp))).symm, rfl⟩
      · have n2 : ((l.length : Int) != 2) = true := by simp; omega
        have n4 : ((l.length : Int) != 4) = true := by simp; omega
        have n8 : ((l.length : Int) != 8) = true := by simp; omega
        have n16 : ((l.length : Int) != 16) = true := by simp; omega
        go_wp2
        go_ret
        exact ⟨ret_bool (tf_no (fun hh => hn (hh.each k l HG.out).1)).symm, rfl⟩
    · have hall := hide (HS.out.all (by omega)); clear HS
      by_cases h4 : xs.length ≤ 4
      · go_wp2
        go_ret
        exact ⟨ret_bool (by rw [tf_yes ⟨hall.out, h4⟩]; simp; omega), rfl⟩
      · go_wp2
        go_ret
        exact ⟨ret_bool (by rw [tf_no fun h => h4 h.few]; simp; omega), rfl⟩
set_option maxHeartbeats 2000000 in
set_option maxRecDepth 20000 in
theorem c_isClip (x : GClip) (cs : List Value) (w : World) (h : T.rds w x.fs cs) : Calls Tryz.prog 123 #[.agg cs.toArray] w fun e w' => e = .returned (.bool (tf (ClipOk x))) ∧ Below w.heap.size w w' := by
  obtain rfl := GClip.rd_open h
  clear h
  have HB0 := hide (show Below w.heap.size w (w.alloc (.cells #[.int .i64 x.fSource, .int .i64 x.fFrom, .int .i64 x.fLength, .int .i64 x.fAt, .int .i64 x.fGain] 141)) from (Below.refl _ _).alloc (Nat.le_refl _) _)
  have HK0 := hide (Bk.born w 141 #[.int .i64 x.fSource, .int .i64 x.fFrom, .int .i64 x.fLength, .int .i64 x.fAt, .int .i64 x.fGain])
  go_enter Tryz.func123, Tryz.ntmps123
  by_cases h1 : inB x.fSource 0 5 = true
  rotate_left
  · have hq : inB x.fSource 0 5 = false := by simpa using h1
    go_wp2_with (go_at_call 70; refine (c_within _ _ _ _).mono ?_; rintro e w' ⟨rfl, rfl⟩)
    go_ret
    exact ⟨ret_bool (tf_no fun hh => by exact h1 hh.source).symm, HB0.out⟩
  by_cases h2 : inB x.fLength 1 4000 = true
  rotate_left
  · have hq : inB x.fLength 1 4000 = false := by simpa using h2
    go_wp2_with (go_at_call 70; refine (c_within _ _ _ _).mono ?_; rintro e w' ⟨rfl, rfl⟩)
    go_ret
    exact ⟨ret_bool (tf_no fun hh => by exact h2 hh.length).symm, HB0.out⟩
  have hb := inB_iff.1 h2
  by_cases h3 : inB x.fFrom 0 (4000 - x.fLength) = true
  rotate_left
  · have hq : inB x.fFrom 0 (4000 - x.fLength) = false := by simpa using h3
    go_wp2_with (go_at_call 70; refine (c_within _ _ _ _).mono ?_; rintro e w' ⟨rfl, rfl⟩)
    go_ret
    exact ⟨ret_bool (tf_no fun hh => by exact h3 hh.from_).symm, HB0.out⟩
  by_cases h4 : inB x.fAt 0 (4000 - x.fLength) = true
  rotate_left
  · have hq : inB x.fAt 0 (4000 - x.fLength) = false := by simpa using h4
    go_wp2_with (go_at_call 70; refine (c_within _ _ _ _).mono ?_; rintro e w' ⟨rfl, rfl⟩)
    go_ret
    exact ⟨ret_bool (tf_no fun hh => by exact h4 hh.at_).symm, HB0.out⟩
  by_cases h5 : Smp x.fGain
  rotate_left
  · have hq : decide (Smp x.fGain) = false := by simpa using h5
    go_wp2_with (first | (go_at_call 70; refine (c_within _ _ _ _).mono ?_; rintro e w' ⟨rfl, rfl⟩) | (go_at_call 169; refine (c_isSample _ _).mono ?_; rintro e w' ⟨rfl, rfl⟩))
    go_ret
    exact ⟨ret_bool (tf_no fun hh => by exact h5 hh.gain).symm, HB0.out⟩
  have hq : decide (Smp x.fGain) = true := by simpa using h5
  go_wp2_with (first | (go_at_call 70; refine (c_within _ _ _ _).mono ?_; rintro e w' ⟨rfl, rfl⟩) | (go_at_call 169; refine (c_isSample _ _).mono ?_; rintro e w' ⟨rfl, rfl⟩))
  go_ret
  exact ⟨ret_bool (by rw [tf_yes ⟨h1, h2, h3, h4, h5⟩]), HB0.out⟩
end Go.Proofs.YteiflbhcehajkaaGreatDoor
end
section
namespace Go.Proofs.YteiflbhcehajkaaGreatDoor
open Go.RowKit
end Go.Proofs.YteiflbhcehajkaaGreatDoor
end
section
namespace Go.Proofs.YteiflbhcehajkaaGreatDoor
open Go.RowKit Go.WideMaps Go.Maps
theorem c_sizeStrip (A : Option Addr) (n c : Nat) (w : World) (h : n ≤ 9223372036854775807) : Calls Tryz.prog 69 #[.slice A n c] w fun e w' => e = .returned (.int .i64 (n : Int)) ∧ w = w' := by
  go_enter Tryz.func69, Tryz.ntmps69
  go_wp2
  go_ret
  exact ⟨rfl, rfl⟩
theorem c_sizePatch (A : Option Addr) (n c : Nat) (w : World) (h : n ≤ 9223372036854775807) : Calls Tryz.prog 74 #[.slice A n c] w fun e w' => e = .returned (.int .i64 (n : Int)) ∧ w = w' := by
  go_enter Tryz.func74, Tryz.ntmps74
  go_wp2
  go_ret
  exact ⟨rfl, rfl⟩
theorem c_sizeLL (A : Option Addr) (n c : Nat) (w : World) (h : n ≤ 9223372036854775807) : Calls Tryz.prog 48 #[.slice A n c] w fun e w' => e = .returned (.int .i64 (n : Int)) ∧ w = w' := by
  go_enter Tryz.func48, Tryz.ntmps48
  go_wp2
  go_ret
  exact ⟨rfl, rfl⟩
theorem c_sizeSend (A : Option Addr) (n c : Nat) (w : World) (h : n ≤ 9223372036854775807) : Calls Tryz.prog 170 #[.slice A n c] w fun e w' => e = .returned (.int .i64 (n : Int)) ∧ w = w' := by
  go_enter Tryz.func170, Tryz.ntmps170
  go_wp2
  go_ret
  exact ⟨rfl, rfl⟩
theorem c_sizeTrack (A : Option Addr) (n c : Nat) (w : World) (h : n ≤ 9223372036854775807) : Calls Tryz.prog 49 #[.slice A n c] w fun e w' => e = .returned (.int .i64 (n : Int)) ∧ w = w' := by
  go_enter Tryz.func49, Tryz.ntmps49
  go_wp2
  go_ret
  exact ⟨rfl, rfl⟩
theorem c_sizeNode (A : Option Addr) (n c : Nat) (w : World) (h : n ≤ 9223372036854775807) : Calls Tryz.prog 207 #[.slice A n c] w fun e w' => e = .returned (.int .i64 (n : Int)) ∧ w = w' := by
  go_enter Tryz.func207, Tryz.ntmps207
  go_wp2
  go_ret
  exact ⟨rfl, rfl⟩
set_option maxHeartbeats 2000000 in
set_option maxRecDepth 20000 in
theorem c_IsName (s : ByteArray) (w : World) : Calls Tryz.prog 121 #[.string s] w fun e w' => e = .returned (.bool (tf (NameOk s))) ∧ w = w' := by
  by_cases h1 : 1 ≤ s.size
  rotate_left
  · go_enter Tryz.func121, Tryz.ntmps121
    go_wp2
    go_ret
    exact ⟨ret_bool (tf_no fun h => h1 h.some_).symm, rfl⟩
  by_cases h2 : s.size ≤ 10
  rotate_left
  · go_enter Tryz.func121, Tryz.ntmps121
    go_wp2
    go_ret
    exact ⟨ret_bool (tf_no fun h => h2 h.few).symm, rfl⟩
  go_enter Tryz.func121, Tryz.ntmps121
  go_wp2
  go_loop [3] (fun i => ∃ k : Nat, k ≤ s.size ∧ i = .int .i64 k ∧ ∀ i, i < k → smallN (bA s i) ∨ (digitN (bA s i) ∧ i ≠ 0)) (fun i => s.size - (intOf i).toNat)
  case atStart => exact ⟨0, Nat.zero_le _, rfl, fun i h => absurd h (by omega)⟩
  case round =>
    obtain ⟨k, hk, rfl, hs⟩ := hrel
    have HS := hide hs; clear hs
    by_cases hlt : k < s.size
    · have hb := bA_lt s k
      have hg := bA_get hlt
      have HX : Sec (∀ p : Prop, p → p) := ⟨fun _ h => h⟩
      generalize hy : bA s k = y at *
      have HY := hide hy; clear hy
      by_cases a1 : 97 ≤ y
      · by_cases a2 : y ≤ 122
        · by_cases a3 : 48 ≤ y
          · by_cases a4 : y ≤ 57
            · omega
            · have n1 : decide ((y : Int) ≤ 122) = true := decide_eq_true (by omega)
              have n2 : decide ((y : Int) ≤ 57) = false := decide_eq_false (by omega)
              go_wp2
              go_round
              case rel => exact ⟨k + 1, by omega, by go_num, fun i hi => by
                by_cases e : i = k
                · subst e; rw [HY.out]; exact .inl ⟨a1, a2⟩
                · exact HS.out i (by omega)⟩
              case measure => simp [intOf]; omega
          · omega
        · by_cases a4 : y ≤ 57
          · omega
          · have n1 : decide ((y : Int) ≤ 122) = false := decide_eq_false (by omega)
            have n2 : decide ((y : Int) ≤ 57) = false := decide_eq_false (by omega)
            go_wp2
            go_ret
            exact ⟨ret_bool (tf_no fun h => by rcases h.each k hlt with h | h <;> rw [HY.out] at h <;> (simp only [smallN, digitN] at h; omega)).symm, rfl⟩
      · by_cases a3 : 48 ≤ y
        · by_cases a4 : y ≤ 57
          · have n2 : decide ((y : Int) ≤ 57) = true := decide_eq_true (by omega)
            by_cases a5 : k = 0
            · subst a5
              go_wp2
              go_ret
              exact ⟨ret_bool (tf_no fun h => by rcases h.each 0 hlt with h | h <;> rw [HY.out] at h <;> (simp only [smallN, digitN] at h; omega)).symm, rfl⟩
            · have a6 : ((k : Int) == 0) = false := by simp; omega
              have A5 := hide a5; clear a5
              go_wp2
              go_round
              case rel => exact ⟨k + 1, by omega, by go_num, fun i hi => by
                by_cases e : i = k
                · subst e; rw [HY.out]; exact .inr ⟨⟨a3, a4⟩, A5.out⟩
                · exact HS.out i (by omega)⟩
              case measure => simp [intOf]; omega
          · have n2 : decide ((y : Int) ≤ 57) = false := decide_eq_false (by omega)
            go_wp2
            go_ret
            exact ⟨ret_bool (tf_no fun h => by rcases h.each k hlt with h | h <;> rw [HY.out] at h <;> (simp only [smallN, digitN] at h; omega)).symm, rfl⟩
        · go_wp2
          go_ret
          exact ⟨ret_bool (tf_no fun h => by rcases h.each k hlt with h | h <;> rw [HY.out] at h <;> (simp only [smallN, digitN] at h; omega)).symm, rfl⟩
    · go_wp2
      go_ret
      exact ⟨ret_bool (tf_yes ⟨h1, h2, fun i hi => HS.out i (by omega)⟩).symm, rfl⟩
theorem befS_succ {l : List GSend} {p : Int} {k : Nat} {y : GSend} (h : l[k]? = some y) : befS l p (k + 1) = y.fTo := by
  unfold befS
  rw [if_neg (by omega), Nat.add_sub_cancel, List.getD_eq_getElem?_getD, h]; rfl
set_option maxHeartbeats 2000000 in
set_option maxRecDepth 20000 in
theorem c_areSends (v : Value) (xs : List GSend) (p n : Int) (w : World) (p0 : 0 ≤ p) (p1 : p ≤ 1048576) (n0 : 0 ≤ n) (n1 : n ≤ 1048576) (hr : T.rd w (T.sl 203 2 (xs.map GSend.t)) [v]) : Calls Tryz.prog 122 #[v, .int .i64 p, .int .i64 n] w fun e w' => e = .returned (.bool (tf (SendsOk xs p n))) ∧ Below w.heap.size w w' := by
  obtain ⟨A, cap, rfl, hl, hc, hx⟩ := T.rd_openG hr
  have HX := hide hx; clear hx hr
  go_enter Tryz.func122, Tryz.ntmps122
  go_wp2
  go_loopw [7, 13] (fun b i wr => ∃ (k : Nat) (bf : Int), k ≤ xs.length ∧ i = .int .i64 k ∧ b = .int .i64 bf ∧ bf = befS xs p k ∧ 0 ≤ bf ∧ bf ≤ 1048576 ∧ Upto xs (fun i x => inB x.fTo (befS xs p i + 1) (n - 1) = true ∧ Smp x.fGain) k ∧ Below w.heap.size w wr) (fun _ i _ => xs.length - (intOf i).toNat)
  case atStart => exact ⟨0, p, Nat.zero_le _, rfl, rfl, rfl, p0, p1, Upto.zero, Below.refl _ _⟩
  case round =>
    obtain ⟨k, bf, hk, rfl, rfl, hbf, b0, b1, hs, hbw⟩ := hrel
    have HS := hide hs; have HB := hide hbw; have HBF := hide hbf; clear hs hbw hbf
    by_cases hlt : k < xs.length
    · have hgk := List.getElem?_eq_getElem hlt
      obtain ⟨b, off, cs, rfl, hb, hcs, hcell⟩ := HX.out k xs[k] hgk
      generalize xs[k] = y at *
      have HG := hide hgk; clear hgk
      obtain rfl := GSend.rd_open (show T.rds _ _ _ by simpa only [GSend.t, T.rd] using hcs)
      have d0 := (HB.out.cell hb).trans (hcell 0 (.int .i64 y.fTo) rfl)
      have d1 := (HB.out.cell hb).trans (hcell 1 (.int .i64 y.fGain) rfl)
      rw [show off + (k * 2 + 0) = off + k * 2 by omega] at d0
      rw [show off + (k * 2 + 1) = off + k * 2 + 1 by omega] at d1
      clear hcs hcell
      have hq : b < wr.heap.size := Nat.lt_of_lt_of_le hb HB.out.size
      have hB := HB.out; have hsz := HB.out.size
      by_cases q1 : inB y.fTo (bf + 1) (n - 1) = true
      rotate_left
      · have q1' : inB y.fTo (bf + 1) (n - 1) = false := by simpa using q1
        go_wp2_with (first | (go_at_call 70; refine (c_within _ _ _ _).mono ?_; rintro e w' ⟨rfl, rfl⟩) | (go_at_call 169; refine (c_isSample _ _).mono ?_; rintro e w' ⟨rfl, rfl⟩))
        go_ret
        exact ⟨ret_bool (tf_no fun h => by have := (h.each k y HG.out).1; rw [← HBF.out] at this; exact q1 this).symm, (by repeat (first | with_reducible exact Below.refl _ _ | with_reducible assumption | with_reducible refine Below.setCell ?_ (by first | omega | (simp; done) | (simp; omega)) _ | with_reducible refine Below.alloc ?_ (by first | omega | (simp; done) | (simp; omega)) _ | with_reducible refine Below.drew ?_ | with_reducible refine below_drewN ?_ _ | exact Below.refl _ _ | assumption | refine Below.drew ?_ | refine below_drewN ?_ _ | refine Below.alloc ?_ (by first | omega | (simp; done) | (simp; omega)) _ | refine Below.setCell ?_ (by first | omega | (simp; done) | (simp; omega)) _))⟩
      have i1 := inB_iff.1 q1
      by_cases q2 : Smp y.fGain
      rotate_left
      · have q2' : decide (Smp y.fGain) = false := decide_eq_false q2
        have Q2 := hide q2; clear q2
        go_wp2_with (first | (go_at_call 70; refine (c_within _ _ _ _).mono ?_; rintro e w' ⟨rfl, rfl⟩) | (go_at_call 169; refine (c_isSample _ _).mono ?_; rintro e w' ⟨rfl, rfl⟩))
        go_ret
        exact ⟨ret_bool (tf_no fun h => Q2.out (h.each k y HG.out).2).symm, (by repeat (first | with_reducible exact Below.refl _ _ | with_reducible assumption | with_reducible refine Below.setCell ?_ (by first | omega | (simp; done) | (simp; omega)) _ | with_reducible refine Below.alloc ?_ (by first | omega | (simp; done) | (simp; omega)) _ | with_reducible refine Below.drew ?_ | with_reducible refine below_drewN ?_ _ | exact Below.refl _ _ | assumption | refine Below.drew ?_ | refine below_drewN ?_ _ | refine Below.alloc ?_ (by first | omega | (simp; done) | (simp; omega)) _ | refine Below.setCell ?_ (by first | omega | (simp; done) | (simp; omega)) _))⟩
      have q2' : decide (Smp y.fGain) = true := decide_eq_true q2
      have Q2 := hide q2; have Q1 := hide q1; clear q2
      go_wp2_with (first | (go_at_call 70; refine (c_within _ _ _ _).mono ?_; rintro e w' ⟨rfl, rfl⟩) | (go_at_call 169; refine (c_isSample _ _).mono ?_; rintro e w' ⟨rfl, rfl⟩))
      go_roundw
      case rel => exact ⟨k + 1, y.fTo, by omega, by go_num, rfl, (befS_succ HG.out).symm, by omega, by omega, HS.out.step HG.out ⟨by rw [← HBF.out]; exact Q1.out, Q2.out⟩, (by repeat (first | with_reducible exact Below.refl _ _ | with_reducible assumption | with_reducible refine Below.setCell ?_ (by first | omega | (simp; done) | (simp; omega)) _ | with_reducible refine Below.alloc ?_ (by first | omega | (simp; done) | (simp; omega)) _ | with_reducible refine Below.drew ?_ | with_reducible refine below_drewN ?_ _ | exact Below.refl _ _ | assumption | refine Below.drew ?_ | refine below_drewN ?_ _ | refine Below.alloc ?_ (by first | omega | (simp; done) | (simp; omega)) _ | refine Below.setCell ?_ (by first | omega | (simp; done) | (simp; omega)) _))⟩
      case measure => simp [intOf]; omega
    · have hall := hide (HS.out.all (by omega)); clear HS
      have hB := HB.out
      by_cases hp : p = n - 1
      · by_cases hz : xs.length = 0
        · have z1 : ((xs.length : Int) == 0) = true := beqI_t (by omega)
          have HZ := hide hz; have HP := hide hp; have z2 : (p == n - 1) = true := by simp [hp]
          clear hz hp
          go_wp2
          go_ret
          exact ⟨ret_bool (tf_yes ⟨hall.out, fun _ => HZ.out, fun h => absurd HP.out h⟩).symm, HB.out⟩
        · have z1 : ((xs.length : Int) == 0) = false := beqI_f (by omega)
          have HZ := hide hz; have HP := hide hp; have z2 : (p == n - 1) = true := by simp [hp]
          clear hz hp
          go_wp2
          go_ret
          exact ⟨ret_bool (tf_no fun h => HZ.out (h.last HP.out)).symm, HB.out⟩
      · have z2 : (p == n - 1) = false := by simp [hp]
        have HP := hide hp; clear hp
        go_wp2_with (first | (go_at_call 70; refine (c_within _ _ _ _).mono ?_; rintro e w' ⟨rfl, rfl⟩) | (go_at_call 170; refine (c_sizeSend _ _ _ _ (by omega)).mono ?_; rintro e w' ⟨rfl, rfl⟩))
        go_ret
        exact ⟨ret_bool (by
          by_cases hz : 1 ≤ xs.length ∧ xs.length ≤ 4
          · rw [tf_yes ⟨hall.out, fun h => absurd h HP.out, fun _ => hz⟩]; exact inB_iff.2 (by omega)
          · rw [tf_no fun h => hz (h.few HP.out)]; exact inB_false.2 (by omega)), HB.out⟩
end Go.Proofs.YteiflbhcehajkaaGreatDoor
end
