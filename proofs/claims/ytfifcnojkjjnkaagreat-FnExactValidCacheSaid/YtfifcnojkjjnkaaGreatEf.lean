/- Contracts: what is valid, by the program: lists, clips, names, sends. -/
import Derived.Test.YtfifcnojkjjnkaaGreatEe
import Derived.Test.YtfifcnojkjjnkaaGreatAe
import Derived.Deep.RegionHeld3
namespace Go.Proofs.YtfifcnojkjjnkaaGreat
open Go.RowKit
theorem inB_iff {n a b : Int} : inB n a b = true ↔ a ≤ n ∧ n ≤ b := by simp [inB]
theorem inB_not {n a b : Int} (h : inB n a b = false) (k : a ≤ n ∧ n ≤ b) : False := by simp [inB] at h; omega
set_option maxHeartbeats 2000000 in
set_option maxRecDepth 20000 in
theorem c_areIndices (v : Value) (xs : List Int) (n : Int) (w : World) (hr : RdI w v xs) (h0 : 0 ≤ n) (h1 : n ≤ 9223372036854775807) : Calls Tryz.prog 140 #[v, .int .i64 n] w fun e w' => e = .returned (.bool (tf (Idx xs n))) ∧ w = w' := by
  obtain ⟨A, cap, rfl, hl, hc, hx⟩ := hr.open_
  have HX := hide hx; clear hx hr
  go_enter Tryz.func140, Tryz.ntmps140
  go_wp2
  go_loop [9] (fun i => ∃ k : Nat, k ≤ xs.length ∧ i = .int .i64 k ∧ Upto xs (fun _ x => 0 ≤ x ∧ x ≤ n - 1) k) (fun i => xs.length - (intOf i).toNat)
  case atStart => exact ⟨0, Nat.zero_le _, rfl, Upto.zero⟩
  case round =>
    obtain ⟨k, hk, rfl, hs⟩ := hrel
    have HS := hide hs; clear hs
    by_cases hlt : k < xs.length
    · have hgk := List.getElem?_eq_getElem hlt
      obtain ⟨b, off, rfl, hb, hcell⟩ := HX.out k xs[k] hgk
      generalize xs[k] = x at *
      have HG := hide hgk; clear hgk
      by_cases hq : inB x 0 (n - 1) = true
      · go_wp2_with (go_at_call 74; refine (c_within _ _ _ _).mono ?_; rintro e w' ⟨rfl, rfl⟩)
        go_round
        case rel => exact ⟨k + 1, by omega, by go_num, HS.out.step HG.out (inB_iff.1 hq)⟩
        case measure => simp [intOf]; omega
      · have hq' : inB x 0 (n - 1) = false := by simpa using hq
        clear hq
        go_wp2_with (go_at_call 74; refine (c_within _ _ _ _).mono ?_; rintro e w' ⟨rfl, rfl⟩)
        go_ret
        exact ⟨ret_bool (tf_no (fun hh => inB_not hq' (hh k x HG.out))).symm, rfl⟩
    · have hall := hide (HS.out.all (by omega))
      go_wp2
      go_ret
      exact ⟨ret_bool ((tf_yes hall.out).symm), rfl⟩
set_option maxHeartbeats 2000000 in
set_option maxRecDepth 20000 in
theorem c_areSignals (v : Value) (xs : List (List Int)) (w : World) (hr : T.rd w (T.sl 33 1 (xs.map (T.ints 2))) [v]) : Calls Tryz.prog 215 #[v] w fun e w' => e = .returned (.bool (tf (Each xs fun _ l => sigB l = true))) ∧ w = w' := by
  obtain ⟨A, cap, rfl, hl, hc, hx⟩ := T.rd_openG hr
  have HX := hide hx; clear hx hr
  go_enter Tryz.func215, Tryz.ntmps215
  go_wp2
  go_loop [7] (fun i => ∃ k : Nat, k ≤ xs.length ∧ i = .int .i64 k ∧ Upto xs (fun _ l => sigB l = true) k) (fun i => xs.length - (intOf i).toNat)
  case atStart => exact ⟨0, Nat.zero_le _, rfl, Upto.zero⟩
  case round =>
    obtain ⟨k, hk, rfl, hs⟩ := hrel
    have HS := hide hs; clear hs
    by_cases hlt : k < xs.length
    · have hgk := List.getElem?_eq_getElem hlt
      obtain ⟨b, off, cs, rfl, hb, hcs, hcell⟩ := HX.out k xs[k] hgk
      generalize xs[k] = l at *
      have HG := hide hgk; clear hgk
      obtain ⟨v3, rfl⟩ := T.rd_one hcs
      have d0 := hcell 0 v3 rfl
      rw [Nat.mul_one, Nat.add_zero] at d0
      have R := hide (T.rd_ints.1 hcs); clear hcs hcell
      obtain ⟨A3, c3, rfl, l3, m3, x3⟩ := R.out.open_
      clear x3
      by_cases hq : sigB l = true
      · go_wp2_with (go_at_call 255; refine (c_isSignal _ l _ R.out).mono ?_; rintro e w' ⟨rfl, rfl⟩)
        go_round
        case rel => exact ⟨k + 1, by omega, by go_num, HS.out.step HG.out hq⟩
        case measure => simp [intOf]; omega
      · have hq' : sigB l = false := by simpa using hq
        clear hq
        go_wp2_with (go_at_call 255; refine (c_isSignal _ l _ R.out).mono ?_; rintro e w' ⟨rfl, rfl⟩)
        go_ret
        exact ⟨ret_bool (tf_no (fun hh => by rw [hh k l HG.out] at hq'; exact absurd hq' (by simp))).symm, rfl⟩
    · have hall := hide (HS.out.all (by omega)); clear HS
      go_wp2
      go_ret
      exact ⟨ret_bool (tf_yes hall.out).symm, rfl⟩
set_option maxHeartbeats 2000000 in
set_option maxRecDepth 20000 in
theorem c_areSources (v : Value) (xs : List (List Int)) (w : World) (hr : T.rd w (T.sl 33 1 (xs.map (T.ints 2))) [v]) : Calls Tryz.prog 157 #[v] w fun e w' => e = .returned (.bool (tf (SourcesOk xs))) ∧ w = w' := by
  have R := hide hr
  obtain ⟨A, cap, rfl, hl, hc, hx⟩ := T.rd_openG hr
  clear hx hr
  by_cases h6 : xs.length ≤ 6
  · go_enter Tryz.func157, Tryz.ntmps157
    go_wp2_with (go_at_call 215; refine (c_areSignals _ xs _ R.out).mono ?_; rintro e w' ⟨rfl, rfl⟩)
    go_ret
    exact ⟨ret_bool (tf_iff ⟨fun h => ⟨h, h6⟩, fun h => h.each⟩), rfl⟩
  · go_enter Tryz.func157, Tryz.ntmps157
    go_wp2
    go_ret
    exact ⟨ret_bool (tf_no fun h => h6 h.few).symm, rfl⟩
set_option maxHeartbeats 2000000 in
set_option maxRecDepth 20000 in
theorem c_areTables (v : Value) (xs : List (List Int)) (w : World) (hr : T.rd w (T.sl 33 1 (xs.map (T.ints 2))) [v]) : Calls Tryz.prog 281 #[v] w fun e w' => e = .returned (.bool (tf (TablesOk xs))) ∧ w = w' := by
  obtain ⟨A, cap, rfl, hl, hc, hx⟩ := T.rd_openG hr
  have HX := hide hx; clear hx hr
  go_enter Tryz.func281, Tryz.ntmps281
  go_wp2
  go_loop [8] (fun i => ∃ k : Nat, k ≤ xs.length ∧ i = .int .i64 k ∧ Upto xs (fun _ t => (t.length = 2 ∨ t.length = 4 ∨ t.length = 8 ∨ t.length = 16) ∧ smpB t = true) k) (fun i => xs.length - (intOf i).toNat)
  case atStart => exact ⟨0, Nat.zero_le _, rfl, Upto.zero⟩
  case round =>
    obtain ⟨k, hk, rfl, hs⟩ := hrel
    have HS := hide hs; clear hs
    by_cases hlt : k < xs.length
    · have hgk := List.getElem?_eq_getElem hlt
      obtain ⟨b, off, cs, rfl, hb, hcs, hcell⟩ := HX.out k xs[k] hgk
      generalize xs[k] = l at *
      have HG := hide hgk; clear hgk
      obtain ⟨v3, rfl⟩ := T.rd_one hcs
      have d0 := hcell 0 v3 rfl
      rw [Nat.mul_one, Nat.add_zero] at d0
      have R := hide (T.rd_ints.1 hcs); clear hcs hcell
      obtain ⟨A3, c3, rfl, l3, m3, x3⟩ := R.out.open_
      clear x3
      by_cases hn : l.length = 2 ∨ l.length = 4 ∨ l.length = 8 ∨ l.length = 16
      · by_cases hq : smpB l = true
        · rcases hn with hn | hn | hn | hn
          · skip
            have n2 : ((l.length : Int) != 2) = false := by simp; omega
            clear hn
            have hn : l.length = 2 ∨ l.length = 4 ∨ l.length = 8 ∨ l.length = 16 := by simp at n2; omega
            have HN := hide hn; clear hn
            go_wp2_with (go_at_call 139; refine (c_areSamples _ l _ R.out).mono ?_; rintro e w' ⟨rfl, rfl⟩)
            go_round
            case rel => exact ⟨k + 1, by omega, by go_num, HS.out.step HG.out ⟨HN.out, hq⟩⟩
            case measure => simp [intOf]; omega
          · skip
            have n2 : ((l.length : Int) != 2) = true := by simp; omega
            have n4 : ((l.length : Int) != 4) = false := by simp; omega
            clear hn
            have hn : l.length = 2 ∨ l.length = 4 ∨ l.length = 8 ∨ l.length = 16 := by simp at n4; omega
            have HN := hide hn; clear hn
            go_wp2_with (go_at_call 139; refine (c_areSamples _ l _ R.out).mono ?_; rintro e w' ⟨rfl, rfl⟩)
            go_round
            case rel => exact ⟨k + 1, by omega, by go_num, HS.out.step HG.out ⟨HN.out, hq⟩⟩
            case measure => simp [intOf]; omega
          · skip
            have n2 : ((l.length : Int) != 2) = true := by simp; omega
            have n4 : ((l.length : Int) != 4) = true := by simp; omega
            have n8 : ((l.length : Int) != 8) = false := by simp; omega
            clear hn
            have hn : l.length = 2 ∨ l.length = 4 ∨ l.length = 8 ∨ l.length = 16 := by simp at n8; omega
            have HN := hide hn; clear hn
            go_wp2_with (go_at_call 139; refine (c_areSamples _ l _ R.out).mono ?_; rintro e w' ⟨rfl, rfl⟩)
            go_round
            case rel => exact ⟨k + 1, by omega, by go_num, HS.out.step HG.out ⟨HN.out, hq⟩⟩
            case measure => simp [intOf]; omega
          · skip
            have n2 : ((l.length : Int) != 2) = true := by simp; omega
            have n4 : ((l.length : Int) != 4) = true := by simp; omega
            have n8 : ((l.length : Int) != 8) = true := by simp; omega
            have n16 : ((l.length : Int) != 16) = false := by simp; omega
            clear hn
            have hn : l.length = 2 ∨ l.length = 4 ∨ l.length = 8 ∨ l.length = 16 := by simp at n16; omega
            have HN := hide hn; clear hn
            go_wp2_with (go_at_call 139; refine (c_areSamples _ l _ R.out).mono ?_; rintro e w' ⟨rfl, rfl⟩)
            go_round
            case rel => exact ⟨k + 1, by omega, by go_num, HS.out.step HG.out ⟨HN.out, hq⟩⟩
            case measure => simp [intOf]; omega
        · have hq' : smpB l = false := by simpa using hq
          clear hq
          rcases hn with hn | hn | hn | hn
          · skip
            have n2 : ((l.length : Int) != 2) = false := by simp; omega
            clear hn
            go_wp2_with (go_at_call 139; refine (c_areSamples _ l _ R.out).mono ?_; rintro e w' ⟨rfl, rfl⟩)
            go_ret
            exact ⟨ret_bool (tf_no (fun hh => by rw [(hh.each k l HG.out).2] at hq'; exact absurd hq' (by simp))).symm, rfl⟩
          · skip
            have n2 : ((l.length : Int) != 2) = true := by simp; omega
            have n4 : ((l.length : Int) != 4) = false := by simp; omega
            clear hn
            go_wp2_with (go_at_call 139; refine (c_areSamples _ l _ R.out).mono ?_; rintro e w' ⟨rfl, rfl⟩)
            go_ret
            exact ⟨ret_bool (tf_no (fun hh => by rw [(hh.each k l HG.out).2] at hq'; exact absurd hq' (by simp))).symm, rfl⟩
          · skip
            have n2 : ((l.length : Int) != 2) = true := by simp; omega
            have n4 : ((l.length : Int) != 4) = true := by simp; omega
            have n8 : ((l.length : Int) != 8) = false := by simp; omega
            clear hn
            go_wp2_with (go_at_call 139; refine (c_areSamples _ l _ R.out).mono ?_; rintro e w' ⟨rfl, rfl⟩)
            go_ret
            exact ⟨ret_bool (tf_no (fun hh => by rw [(hh.each k l HG.out).2] at hq'; exact absurd hq' (by simp))).symm, rfl⟩
          · skip
            have n2 : ((l.length : Int) != 2) = true := by simp; omega
            have n4 : ((l.length : Int) != 4) = true := by simp; omega
            have n8 : ((l.length : Int) != 8) = true := by simp; omega
            have n16 : ((l.length : Int) != 16) = false := by simp; omega
            clear hn
            go_wp2_with (go_at_call 139; refine (c_areSamples _ l _ R.out).mono ?_; rintro e w' ⟨rfl, rfl⟩)
            go_ret
            exact ⟨ret_bool (tf_no (fun hh => by rw [(hh.each k l HG.out).2] at hq'; exact absurd hq' (by simp))).symm, rfl⟩
      · have n2 : ((l.length : Int) != 2) = true := by simp; omega
        have n4 : ((l.length : Int) != 4) = true := by simp; omega
        have n8 : ((l.length : Int) != 8) = true := by simp; omega
        have n16 : ((l.length : Int) != 16) = true := by simp; omega
        go_wp2
        go_ret
        exact ⟨ret_bool (tf_no (fun hh => hn (hh.each k l HG.out).1)).symm, rfl⟩
    · have hall := hide (HS.out.all (by omega)); clear HS
      by_cases h4 : xs.length ≤ 4
      · go_wp2
        go_ret
        exact ⟨ret_bool (by rw [tf_yes ⟨hall.out, h4⟩]; simp; omega), rfl⟩
      · go_wp2
        go_ret
        exact ⟨ret_bool (by rw [tf_no fun h => h4 h.few]; simp; omega), rfl⟩
set_option maxHeartbeats 2000000 in
set_option maxRecDepth 20000 in
theorem c_isClip (x : GClip) (cs : List Value) (w : World) (h : T.rds w x.fs cs) : Calls Tryz.prog 218 #[.agg cs.toArray] w fun e w' => e = .returned (.bool (tf (ClipOk x))) ∧ Below w.heap.size w w' := by
  obtain rfl := GClip.rd_open h
  clear h
  have HB0 := hide (show Below w.heap.size w (w.alloc (.cells #[.int .i64 x.fSource, .int .i64 x.fFrom, .int .i64 x.fLength, .int .i64 x.fAt, .int .i64 x.fGain] 90)) from (Below.refl _ _).alloc (Nat.le_refl _) _)
  have HK0 := hide (Bk.born w 90 #[.int .i64 x.fSource, .int .i64 x.fFrom, .int .i64 x.fLength, .int .i64 x.fAt, .int .i64 x.fGain])
  go_enter Tryz.func218, Tryz.ntmps218
  by_cases h1 : inB x.fSource 0 5 = true
  rotate_left
  · have hq : inB x.fSource 0 5 = false := by simpa using h1
    go_wp2_with (go_at_call 74; refine (c_within _ _ _ _).mono ?_; rintro e w' ⟨rfl, rfl⟩)
    go_ret
    exact ⟨ret_bool (tf_no fun hh => by exact h1 hh.source).symm, HB0.out⟩
  by_cases h2 : inB x.fLength 1 4000 = true
  rotate_left
  · have hq : inB x.fLength 1 4000 = false := by simpa using h2
    go_wp2_with (go_at_call 74; refine (c_within _ _ _ _).mono ?_; rintro e w' ⟨rfl, rfl⟩)
    go_ret
    exact ⟨ret_bool (tf_no fun hh => by exact h2 hh.length).symm, HB0.out⟩
  have hb := inB_iff.1 h2
  by_cases h3 : inB x.fFrom 0 (4000 - x.fLength) = true
  rotate_left
  · have hq : inB x.fFrom 0 (4000 - x.fLength) = false := by simpa using h3
    go_wp2_with (go_at_call 74; refine (c_within _ _ _ _).mono ?_; rintro e w' ⟨rfl, rfl⟩)
    go_ret
    exact ⟨ret_bool (tf_no fun hh => by exact h3 hh.from_).symm, HB0.out⟩
  by_cases h4 : inB x.fAt 0 (4000 - x.fLength) = true
  rotate_left
  · have hq : inB x.fAt 0 (4000 - x.fLength) = false := by simpa using h4
    go_wp2_with (go_at_call 74; refine (c_within _ _ _ _).mono ?_; rintro e w' ⟨rfl, rfl⟩)
    go_ret
    exact ⟨ret_bool (tf_no fun hh => by exact h4 hh.at_).symm, HB0.out⟩
  by_cases h5 : Smp x.fGain
  rotate_left
  · have hq : decide (Smp x.fGain) = false := by simpa using h5
    go_wp2_with (first | (go_at_call 74; refine (c_within _ _ _ _).mono ?_; rintro e w' ⟨rfl, rfl⟩) | (go_at_call 206; refine (c_isSample _ _).mono ?_; rintro e w' ⟨rfl, rfl⟩))
    go_ret
    exact ⟨ret_bool (tf_no fun hh => by exact h5 hh.gain).symm, HB0.out⟩
  have hq : decide (Smp x.fGain) = true := by simpa using h5
  go_wp2_with (first | (go_at_call 74; refine (c_within _ _ _ _).mono ?_; rintro e w' ⟨rfl, rfl⟩) | (go_at_call 206; refine (c_isSample _ _).mono ?_; rintro e w' ⟨rfl, rfl⟩))
  go_ret
  exact ⟨ret_bool (by rw [tf_yes ⟨h1, h2, h3, h4, h5⟩]), HB0.out⟩
end Go.Proofs.YtfifcnojkjjnkaaGreat
