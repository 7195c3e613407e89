/- Contracts: how much nested data there is. Contracts on whole structs. -/
import Derived.Test.YteiflbhcehajkaaGreatDoorQAbExactSessionText
import Derived.Test.YteiflbhcehajkaaGreatDoorQAcExactSessionText
import Derived.Test.YteiflbhcehajkaaGreatDoorQAaExactSessionText
import Derived.Test.YteiflbhcehajkaaGreatDoorQAeExactSessionText
import Derived.Test.YteiflbhcehajkaaGreatDoorQAfExactSessionText
set_option linter.unusedVariables false
set_option linter.unusedSimpArgs false
section
namespace Go.Proofs.YteiflbhcehajkaaGreatDoor
open Go.RowKit
set_option maxHeartbeats 1000000 in
set_option maxRecDepth 20000 in
theorem c_szInt64S (v : Value) (xs : List Int) (n : Int) (w : World) (h0 : 0 ≤ n) (h1 : n ≤ 1048576) (hr : T.rd w (T.ints 2 xs) [v]) :
    Calls Tryz.prog 17 #[v, .int .i64 n] w fun e w' => ∃ m : Int, e = .returned (.int .i64 m) ∧ -1 ≤ m ∧ m ≤ n ∧ (0 ≤ m → xs.length ≤ 1048576) ∧ Below w.heap.size w w' := by
  obtain ⟨A, cap, rfl, hl, hc, _⟩ := (T.rd_ints.1 hr).open_
  clear hr
  by_cases h4 : n < xs.length
  · go_enter Tryz.func17, Tryz.ntmps17
    go_wp2
    go_ret
    exact ⟨-1, rfl, by omega, by omega, fun h => by omega, Below.refl _ _⟩
  · go_enter Tryz.func17, Tryz.ntmps17
    go_wp2
    go_ret
    exact ⟨_, rfl, by omega, by omega, fun h => by omega, Below.refl _ _⟩
set_option maxHeartbeats 1000000 in
set_option maxRecDepth 20000 in
theorem c_szInt64SS (v : Value) (xs : List (List Int)) (n : Int) (w : World) (h0 : 0 ≤ n) (h1 : n ≤ 1048576) (hr : T.rd w (T.sl 24 1 (xs.map (T.ints 2))) [v]) :
    Calls Tryz.prog 15 #[v, .int .i64 n] w fun e w' => ∃ m : Int, e = .returned (.int .i64 m) ∧ -1 ≤ m ∧ m ≤ n ∧ (0 ≤ m → smL (fun l : List Int => l.length ≤ 1048576) xs) ∧ Below w.heap.size w w' := by
  obtain ⟨A, cap, rfl, hl, hc, hx⟩ := T.rd_open hr
  rw [List.length_map] at hl ⊢
  have HX := hide hx; clear hx hr
  by_cases h4 : n < xs.length
  · go_enter Tryz.func15, Tryz.ntmps15
    go_wp2
    go_ret
    exact ⟨-1, rfl, by omega, by omega, fun h => by omega, Below.refl _ _⟩
  · go_enter Tryz.func15, Tryz.ntmps15
    go_wp2
    go_loopw [1, 5] (fun t iv wr => ∃ (k : Nat) (m : Int), k ≤ xs.length ∧ iv = .int .i64 (k : Int) ∧ t = .int .i64 m ∧ 0 ≤ m ∧ m ≤ n - xs.length ∧ (∀ y ∈ xs.take k, (fun l : List Int => l.length ≤ 1048576) y) ∧ Below w.heap.size w wr) (fun _ iv _ => xs.length - (intOf iv).toNat)
    case atStart => exact ⟨0, _, Nat.zero_le _, rfl, rfl, by omega, by omega, by simp, Below.refl _ _⟩
    case round =>
      obtain ⟨k, m, hk, rfl, rfl, hm0, hm1, ha, hb⟩ := hrel
      have HA := hide ha; have HB := hide hb; clear ha hb
      by_cases hlt : k < xs.length
      · have hgk := List.getElem?_eq_getElem hlt
        obtain ⟨b, off, cs, rfl, hbw, hcs, hcell⟩ := HX.out k (T.ints 2 xs[k]) (by rw [List.getElem?_map, hgk]; rfl)
        obtain ⟨v3, rfl⟩ := T.rd_one hcs
        have d0 := (HB.out.cell hbw).trans (hcell 0 v3 rfl)
        rw [Nat.mul_one, Nat.add_zero] at d0
        have R3 := hide (T.rd_below hcs HB.out)
        generalize xs[k] = x at *
        have HGK := hide hgk; clear hgk hcs hcell
        go_wp2_with fail
        refine (c_szInt64S _ x m _ hm0 (by omega) R3.out).mono ?_; rintro e w3 ⟨q, rfl, hq0, hq1, hq2, hb3⟩
        have HB3 := hide (bthen HB.out HB.out.size hb3); clear hb3
        rcases Int.lt_or_le q 0 with hneg | hpos
        · have hq := hq2; clear hq2
          go_wp2
          go_ret
          exact ⟨-1, rfl, by omega, by omega, fun h => by omega, HB3.out⟩
        · have HQ := hide (hq2 hpos); clear hq2
          go_wp2
          go_roundw
          case rel => exact ⟨k + 1, q, by omega, by go_num, rfl, by omega, by omega, all_take HA.out HGK.out HQ.out, HB3.out⟩
          case measure => simp [intOf]; omega
      · obtain rfl : k = xs.length := by omega
        go_wp2
        go_ret
        exact ⟨m, rfl, by omega, by omega, fun _ => ⟨by omega, all_full HA.out⟩, HB.out⟩
set_option maxHeartbeats 1000000 in
set_option maxRecDepth 20000 in
theorem c_szClipS (v : Value) (xs : List GClip) (n : Int) (w : World) (h0 : 0 ≤ n) (h1 : n ≤ 1048576) (hr : T.rd w (T.sl 141 5 (xs.map GClip.t)) [v]) :
    Calls Tryz.prog 106 #[v, .int .i64 n] w fun e w' => ∃ m : Int, e = .returned (.int .i64 m) ∧ -1 ≤ m ∧ m ≤ n ∧ (0 ≤ m → xs.length ≤ 1048576) ∧ Below w.heap.size w w' := by
  obtain ⟨A, cap, rfl, hl, hc, hx⟩ := T.rd_open hr
  rw [List.length_map] at hl ⊢
  clear hr hx
  by_cases h4 : n < xs.length
  · go_enter Tryz.func106, Tryz.ntmps106
    go_wp2
    go_ret
    exact ⟨-1, rfl, by omega, by omega, fun h => by omega, Below.refl _ _⟩
  · go_enter Tryz.func106, Tryz.ntmps106
    go_wp2
    go_ret
    exact ⟨_, rfl, by omega, by omega, fun h => by omega, Below.refl _ _⟩
set_option maxHeartbeats 1000000 in
set_option maxRecDepth 20000 in
theorem c_szTrack (x : GTrack) (v0 : Value) (n : Int) (w : World) (h0 : 0 ≤ n) (h1 : n ≤ 1048576) (hg : x.good) (r0 : T.rd w (T.sl 141 5 (x.fClips.map GClip.t)) [v0]) :
    Calls Tryz.prog 53 #[.agg #[v0], .int .i64 n] w fun e w' => ∃ m : Int, e = .returned (.int .i64 m) ∧ -1 ≤ m ∧ m ≤ n ∧ (0 ≤ m → x.small) ∧ Below w.heap.size w w' := by
  have R0 := hide r0
  clear r0
  have HG := hide hg; clear hg
  go_enter Tryz.func53, Tryz.ntmps53
  have HB0 := hide (show Below w.heap.size w (w.alloc (.cells #[v0] 121)) from (Below.refl _ _).alloc (Nat.le_refl _) _)
  have HK0 := hide (Bk.born w 121 #[v0])
  go_wp2_with fail
  refine (c_szClipS _ x.fClips (n) _ (by omega) (by omega) (T.rd_below R0.out HB0.out)).mono ?_; rintro e w1 ⟨m1, rfl, a1, b1, s1, hb⟩
  have HK1 := hide (HK0.out.below hb (by simp)); have HB1 := hide (bthen HB0.out (by simp) hb); clear hb
  have k1 := HK1.out.cell
  rcases Int.lt_or_le m1 0 with hn1 | hp1
  · go_wp2
    go_ret
    exact ⟨-1, rfl, by omega, by omega, fun h => by omega, HB1.out⟩
  have S1 := hide (s1 hp1); clear s1
  go_wp2
  go_ret
  exact ⟨m1, rfl, by omega, by omega, fun _ => S1.out, HB1.out⟩
set_option maxHeartbeats 1000000 in
set_option maxRecDepth 20000 in
theorem c_szTrackS (v : Value) (xs : List GTrack) (n : Int) (w : World) (h0 : 0 ≤ n) (h1 : n ≤ 1048576) (hg : ∀ y ∈ xs, GTrack.good y) (hr : T.rd w (T.sl 114 1 (xs.map GTrack.t)) [v]) :
    Calls Tryz.prog 16 #[v, .int .i64 n] w fun e w' => ∃ m : Int, e = .returned (.int .i64 m) ∧ -1 ≤ m ∧ m ≤ n ∧ (0 ≤ m → smL GTrack.small xs) ∧ Below w.heap.size w w' := by
  obtain ⟨A, cap, rfl, hl, hc, hx⟩ := T.rd_open hr
  rw [List.length_map] at hl ⊢
  have HX := hide hx; clear hx hr
  have HG := hide hg; clear hg
  by_cases h4 : n < xs.length
  · go_enter Tryz.func16, Tryz.ntmps16
    go_wp2
    go_ret
    exact ⟨-1, rfl, by omega, by omega, fun h => by omega, Below.refl _ _⟩
  · go_enter Tryz.func16, Tryz.ntmps16
    go_wp2
    go_loopw [1, 5] (fun t iv wr => ∃ (k : Nat) (m : Int), k ≤ xs.length ∧ iv = .int .i64 (k : Int) ∧ t = .int .i64 m ∧ 0 ≤ m ∧ m ≤ n - xs.length ∧ (∀ y ∈ xs.take k, (GTrack.small) y) ∧ Below w.heap.size w wr) (fun _ iv _ => xs.length - (intOf iv).toNat)
    case atStart => exact ⟨0, _, Nat.zero_le _, rfl, rfl, by omega, by omega, by simp, Below.refl _ _⟩
    case round =>
      obtain ⟨k, m, hk, rfl, rfl, hm0, hm1, ha, hb⟩ := hrel
      have HA := hide ha; have HB := hide hb; clear ha hb
      by_cases hlt : k < xs.length
      · have hgk := List.getElem?_eq_getElem hlt
        obtain ⟨b, off, cs, rfl, hbw, hcs, hcell⟩ := HX.out k (GTrack.t xs[k]) (by rw [List.getElem?_map, hgk]; rfl)
        have hgd := HG.out _ (List.getElem_mem hlt)
        generalize xs[k] = x at *
        have HGK := hide hgk; clear hgk
        obtain ⟨v0, rfl, hR0⟩ := GTrack.rd_open (show T.rds _ _ _ by simpa only [GTrack.t, T.rd] using hcs)
        have d0 := (HB.out.cell hbw).trans (hcell 0 (v0) rfl)
        rw [show off + (k * 1 + 0) = off + k by omega] at d0
        have R0 := hide (T.rd_below hR0 HB.out); clear hR0
        clear hcs hcell
        go_wp2_with fail
        refine (c_szTrack x v0 m _ hm0 (by omega) hgd R0.out).mono ?_; rintro e w3 ⟨q, rfl, hq0, hq1, hq2, hb3⟩
        have HB3 := hide (bthen HB.out HB.out.size hb3); clear hb3
        rcases Int.lt_or_le q 0 with hneg | hpos
        · have hq := hq2; clear hq2
          go_wp2
          go_ret
          exact ⟨-1, rfl, by omega, by omega, fun h => by omega, HB3.out⟩
        · have HQ := hide (hq2 hpos); clear hq2
          go_wp2
          go_roundw
          case rel => exact ⟨k + 1, q, by omega, by go_num, rfl, by omega, by omega, all_take HA.out HGK.out HQ.out, HB3.out⟩
          case measure => simp [intOf]; omega
      · obtain rfl : k = xs.length := by omega
        go_wp2
        go_ret
        exact ⟨m, rfl, by omega, by omega, fun _ => ⟨by omega, all_full HA.out⟩, HB.out⟩
set_option maxHeartbeats 1000000 in
set_option maxRecDepth 20000 in
theorem c_szNode (x : GNode) (v3 : Value) (n : Int) (w : World) (h0 : 0 ≤ n) (h1 : n ≤ 1048576) (hg : x.good) (r3 : T.rd w (T.ints 2 x.fFrom) [v3]) :
    Calls Tryz.prog 154 #[.agg #[.int .i64 x.fKind, .int .i64 x.fA, .int .i64 x.fB, v3], .int .i64 n] w fun e w' => ∃ m : Int, e = .returned (.int .i64 m) ∧ -1 ≤ m ∧ m ≤ n ∧ (0 ≤ m → x.small) ∧ Below w.heap.size w w' := by
  have R3 := hide r3
  clear r3
  have HG := hide hg; clear hg
  go_enter Tryz.func154, Tryz.ntmps154
  have HB0 := hide (show Below w.heap.size w (w.alloc (.cells #[.int .i64 x.fKind, .int .i64 x.fA, .int .i64 x.fB, v3] 245)) from (Below.refl _ _).alloc (Nat.le_refl _) _)
  have HK0 := hide (Bk.born w 245 #[.int .i64 x.fKind, .int .i64 x.fA, .int .i64 x.fB, v3])
  go_wp2_with fail
  refine (c_szInt64S _ x.fFrom (n) _ (by omega) (by omega) (T.rd_below R3.out HB0.out)).mono ?_; rintro e w1 ⟨m1, rfl, a1, b1, s1, hb⟩
  have HK1 := hide (HK0.out.below hb (by simp)); have HB1 := hide (bthen HB0.out (by simp) hb); clear hb
  have k1 := HK1.out.cell
  rcases Int.lt_or_le m1 0 with hn1 | hp1
  · go_wp2
    go_ret
    exact ⟨-1, rfl, by omega, by omega, fun h => by omega, HB1.out⟩
  have S1 := hide (s1 hp1); clear s1
  go_wp2
  go_ret
  exact ⟨m1, rfl, by omega, by omega, fun _ => S1.out, HB1.out⟩
set_option maxHeartbeats 1000000 in
set_option maxRecDepth 20000 in
theorem c_szNodeS (v : Value) (xs : List GNode) (n : Int) (w : World) (h0 : 0 ≤ n) (h1 : n ≤ 1048576) (hg : ∀ y ∈ xs, GNode.good y) (hr : T.rd w (T.sl 207 4 (xs.map GNode.t)) [v]) :
    Calls Tryz.prog 107 #[v, .int .i64 n] w fun e w' => ∃ m : Int, e = .returned (.int .i64 m) ∧ -1 ≤ m ∧ m ≤ n ∧ (0 ≤ m → smL GNode.small xs) ∧ Below w.heap.size w w' := by
  obtain ⟨A, cap, rfl, hl, hc, hx⟩ := T.rd_open hr
  rw [List.length_map] at hl ⊢
  have HX := hide hx; clear hx hr
  have HG := hide hg; clear hg
  by_cases h4 : n < xs.length
  · go_enter Tryz.func107, Tryz.ntmps107
    go_wp2
    go_ret
    exact ⟨-1, rfl, by omega, by omega, fun h => by omega, Below.refl _ _⟩
  · go_enter Tryz.func107, Tryz.ntmps107
    go_wp2
    go_loopw [1, 5] (fun t iv wr => ∃ (k : Nat) (m : Int), k ≤ xs.length ∧ iv = .int .i64 (k : Int) ∧ t = .int .i64 m ∧ 0 ≤ m ∧ m ≤ n - xs.length ∧ (∀ y ∈ xs.take k, (GNode.small) y) ∧ Below w.heap.size w wr) (fun _ iv _ => xs.length - (intOf iv).toNat)
    case atStart => exact ⟨0, _, Nat.zero_le _, rfl, rfl, by omega, by omega, by simp, Below.refl _ _⟩
    case round =>
      obtain ⟨k, m, hk, rfl, rfl, hm0, hm1, ha, hb⟩ := hrel
      have HA := hide ha; have HB := hide hb; clear ha hb
      by_cases hlt : k < xs.length
      · have hgk := List.getElem?_eq_getElem hlt
        obtain ⟨b, off, cs, rfl, hbw, hcs, hcell⟩ := HX.out k (GNode.t xs[k]) (by rw [List.getElem?_map, hgk]; rfl)
        have hgd := HG.out _ (List.getElem_mem hlt)
        generalize xs[k] = x at *
        have HGK := hide hgk; clear hgk
        obtain ⟨v3, rfl, hR3⟩ := GNode.rd_open (show T.rds _ _ _ by simpa only [GNode.t, T.rd] using hcs)
        have d0 := (HB.out.cell hbw).trans (hcell 0 (.int .i64 x.fKind) rfl)
        have d1 := (HB.out.cell hbw).trans (hcell 1 (.int .i64 x.fA) rfl)
        have d2 := (HB.out.cell hbw).trans (hcell 2 (.int .i64 x.fB) rfl)
        have d3 := (HB.out.cell hbw).trans (hcell 3 (v3) rfl)
        rw [show off + (k * 4 + 0) = off + k * 4 by omega] at d0
        rw [show off + (k * 4 + 1) = off + k * 4 + 1 by omega] at d1
        rw [show off + (k * 4 + 2) = off + k * 4 + 2 by omega] at d2
        rw [show off + (k * 4 + 3) = off + k * 4 + 3 by omega] at d3
        have R3 := hide (T.rd_below hR3 HB.out); clear hR3
        clear hcs hcell
        go_wp2_with fail
        refine (c_szNode x v3 m _ hm0 (by omega) hgd R3.out).mono ?_; rintro e w3 ⟨q, rfl, hq0, hq1, hq2, hb3⟩
        have HB3 := hide (bthen HB.out HB.out.size hb3); clear hb3
        rcases Int.lt_or_le q 0 with hneg | hpos
        · have hq := hq2; clear hq2
          go_wp2
          go_ret
          exact ⟨-1, rfl, by omega, by omega, fun h => by omega, HB3.out⟩
        · have HQ := hide (hq2 hpos); clear hq2
          go_wp2
          go_roundw
          case rel => exact ⟨k + 1, q, by omega, by go_num, rfl, by omega, by omega, all_take HA.out HGK.out HQ.out, HB3.out⟩
          case measure => simp [intOf]; omega
      · obtain rfl : k = xs.length := by omega
        go_wp2
        go_ret
        exact ⟨m, rfl, by omega, by omega, fun _ => ⟨by omega, all_full HA.out⟩, HB.out⟩
set_option maxHeartbeats 1000000 in
set_option maxRecDepth 20000 in
theorem c_szPatch (x : GPatch) (v1 : Value) (v2 : Value) (v3 : Value) (n : Int) (w : World) (h0 : 0 ≤ n) (h1 : n ≤ 1048576) (hg : x.good) (r1 : T.rd w (T.sl 24 1 (x.fTables.map (T.ints 2))) [v1]) (r2 : T.rd w (T.sl 207 4 (x.fNodes.map GNode.t)) [v2]) (r3 : T.rd w (T.ints 2 x.fOutputs) [v3]) :
    Calls Tryz.prog 54 #[.agg #[.int .i64 x.fInputs, v1, v2, v3], .int .i64 n] w fun e w' => ∃ m : Int, e = .returned (.int .i64 m) ∧ -1 ≤ m ∧ m ≤ n ∧ (0 ≤ m → x.small) ∧ Below w.heap.size w w' := by
  have R1 := hide r1
  have R2 := hide r2
  have R3 := hide r3
  clear r1 r2 r3
  have HG := hide hg; clear hg
  go_enter Tryz.func54, Tryz.ntmps54
  have HB0 := hide (show Below w.heap.size w (w.alloc (.cells #[.int .i64 x.fInputs, v1, v2, v3] 125)) from (Below.refl _ _).alloc (Nat.le_refl _) _)
  have HK0 := hide (Bk.born w 125 #[.int .i64 x.fInputs, v1, v2, v3])
  go_wp2_with fail
  refine (c_szInt64SS _ x.fTables (n) _ (by omega) (by omega) (T.rd_below R1.out HB0.out)).mono ?_; rintro e w1 ⟨m1, rfl, a1, b1, s1, hb⟩
  have HK1 := hide (HK0.out.below hb (by simp)); have HB1 := hide (bthen HB0.out (by simp) hb); clear hb
  have k1 := HK1.out.cell
  rcases Int.lt_or_le m1 0 with hn1 | hp1
  · go_wp2
    go_ret
    exact ⟨-1, rfl, by omega, by omega, fun h => by omega, HB1.out⟩
  have S1 := hide (s1 hp1); clear s1
  go_wp2_with fail
  refine (c_szNodeS _ x.fNodes (m1) _ (by omega) (by omega) (HG.out.2.2.1) (T.rd_below R2.out HB1.out)).mono ?_; rintro e w2 ⟨m2, rfl, a2, b2, s2, hb⟩
  have HK2 := hide (HK1.out.below hb HK1.out.lt); have HB2 := hide (bthen HB1.out HB1.out.size hb); clear hb
  have k2 := HK2.out.cell
  rcases Int.lt_or_le m2 0 with hn2 | hp2
  · go_wp2
    go_ret
    exact ⟨-1, rfl, by omega, by omega, fun h => by omega, HB2.out⟩
  have S2 := hide (s2 hp2); clear s2
  go_wp2_with fail
  refine (c_szInt64S _ x.fOutputs (m2) _ (by omega) (by omega) (T.rd_below R3.out HB2.out)).mono ?_; rintro e w3 ⟨m3, rfl, a3, b3, s3, hb⟩
  have HK3 := hide (HK2.out.below hb HK2.out.lt); have HB3 := hide (bthen HB2.out HB2.out.size hb); clear hb
  have k3 := HK3.out.cell
  rcases Int.lt_or_le m3 0 with hn3 | hp3
  · go_wp2
    go_ret
    exact ⟨-1, rfl, by omega, by omega, fun h => by omega, HB3.out⟩
  have S3 := hide (s3 hp3); clear s3
  go_wp2
  go_ret
  exact ⟨m3, rfl, by omega, by omega, fun _ => ⟨S1.out, S2.out, S3.out⟩, HB3.out⟩
set_option maxHeartbeats 1000000 in
set_option maxRecDepth 20000 in
theorem c_szPatchS (v : Value) (xs : List GPatch) (n : Int) (w : World) (h0 : 0 ≤ n) (h1 : n ≤ 1048576) (hg : ∀ y ∈ xs, GPatch.good y) (hr : T.rd w (T.sl 136 4 (xs.map GPatch.t)) [v]) :
    Calls Tryz.prog 18 #[v, .int .i64 n] w fun e w' => ∃ m : Int, e = .returned (.int .i64 m) ∧ -1 ≤ m ∧ m ≤ n ∧ (0 ≤ m → smL GPatch.small xs) ∧ Below w.heap.size w w' := by
  obtain ⟨A, cap, rfl, hl, hc, hx⟩ := T.rd_open hr
  rw [List.length_map] at hl ⊢
  have HX := hide hx; clear hx hr
  have HG := hide hg; clear hg
  by_cases h4 : n < xs.length
  · go_enter Tryz.func18, Tryz.ntmps18
    go_wp2
    go_ret
    exact ⟨-1, rfl, by omega, by omega, fun h => by omega, Below.refl _ _⟩
  · go_enter Tryz.func18, Tryz.ntmps18
    go_wp2
    go_loopw [1, 5] (fun t iv wr => ∃ (k : Nat) (m : Int), k ≤ xs.length ∧ iv = .int .i64 (k : Int) ∧ t = .int .i64 m ∧ 0 ≤ m ∧ m ≤ n - xs.length ∧ (∀ y ∈ xs.take k, (GPatch.small) y) ∧ Below w.heap.size w wr) (fun _ iv _ => xs.length - (intOf iv).toNat)
    case atStart => exact ⟨0, _, Nat.zero_le _, rfl, rfl, by omega, by omega, by simp, Below.refl _ _⟩
    case round =>
      obtain ⟨k, m, hk, rfl, rfl, hm0, hm1, ha, hb⟩ := hrel
      have HA := hide ha; have HB := hide hb; clear ha hb
      by_cases hlt : k < xs.length
      · have hgk := List.getElem?_eq_getElem hlt
        obtain ⟨b, off, cs, rfl, hbw, hcs, hcell⟩ := HX.out k (GPatch.t xs[k]) (by rw [List.getElem?_map, hgk]; rfl)
        have hgd := HG.out _ (List.getElem_mem hlt)
        generalize xs[k] = x at *
        have HGK := hide hgk; clear hgk
        obtain ⟨v1, v2, v3, rfl, hR1, hR2, hR3⟩ := GPatch.rd_open (show T.rds _ _ _ by simpa only [GPatch.t, T.rd] using hcs)
        have d0 := (HB.out.cell hbw).trans (hcell 0 (.int .i64 x.fInputs) rfl)
        have d1 := (HB.out.cell hbw).trans (hcell 1 (v1) rfl)
        have d2 := (HB.out.cell hbw).trans (hcell 2 (v2) rfl)
        have d3 := (HB.out.cell hbw).trans (hcell 3 (v3) rfl)
        rw [show off + (k * 4 + 0) = off + k * 4 by omega] at d0
        rw [show off + (k * 4 + 1) = off + k * 4 + 1 by omega] at d1
        rw [show off + (k * 4 + 2) = off + k * 4 + 2 by omega] at d2
        rw [show off + (k * 4 + 3) = off + k * 4 + 3 by omega] at d3
        have R1 := hide (T.rd_below hR1 HB.out); clear hR1
        have R2 := hide (T.rd_below hR2 HB.out); clear hR2
        have R3 := hide (T.rd_below hR3 HB.out); clear hR3
        clear hcs hcell
        go_wp2_with fail
        refine (c_szPatch x v1 v2 v3 m _ hm0 (by omega) hgd R1.out R2.out R3.out).mono ?_; rintro e w3 ⟨q, rfl, hq0, hq1, hq2, hb3⟩
        have HB3 := hide (bthen HB.out HB.out.size hb3); clear hb3
        rcases Int.lt_or_le q 0 with hneg | hpos
        · have hq := hq2; clear hq2
          go_wp2
          go_ret
          exact ⟨-1, rfl, by omega, by omega, fun h => by omega, HB3.out⟩
        · have HQ := hide (hq2 hpos); clear hq2
          go_wp2
          go_roundw
          case rel => exact ⟨k + 1, q, by omega, by go_num, rfl, by omega, by omega, all_take HA.out HGK.out HQ.out, HB3.out⟩
          case measure => simp [intOf]; omega
      · obtain rfl : k = xs.length := by omega
        go_wp2
        go_ret
        exact ⟨m, rfl, by omega, by omega, fun _ => ⟨by omega, all_full HA.out⟩, HB.out⟩
set_option maxHeartbeats 1000000 in
set_option maxRecDepth 20000 in
theorem c_szSendS (v : Value) (xs : List GSend) (n : Int) (w : World) (h0 : 0 ≤ n) (h1 : n ≤ 1048576) (hr : T.rd w (T.sl 203 2 (xs.map GSend.t)) [v]) :
    Calls Tryz.prog 155 #[v, .int .i64 n] w fun e w' => ∃ m : Int, e = .returned (.int .i64 m) ∧ -1 ≤ m ∧ m ≤ n ∧ (0 ≤ m → xs.length ≤ 1048576) ∧ Below w.heap.size w w' := by
  obtain ⟨A, cap, rfl, hl, hc, hx⟩ := T.rd_open hr
  rw [List.length_map] at hl ⊢
  clear hr hx
  by_cases h4 : n < xs.length
  · go_enter Tryz.func155, Tryz.ntmps155
    go_wp2
    go_ret
    exact ⟨-1, rfl, by omega, by omega, fun h => by omega, Below.refl _ _⟩
  · go_enter Tryz.func155, Tryz.ntmps155
    go_wp2
    go_ret
    exact ⟨_, rfl, by omega, by omega, fun h => by omega, Below.refl _ _⟩
set_option maxHeartbeats 1000000 in
set_option maxRecDepth 20000 in
theorem c_szStrip (x : GStrip) (v2 : Value) (n : Int) (w : World) (h0 : 0 ≤ n) (h1 : n ≤ 1048576) (hg : x.good) (r2 : T.rd w (T.sl 203 2 (x.fSends.map GSend.t)) [v2]) :
    Calls Tryz.prog 108 #[.agg #[.string x.fName, .int .i64 x.fLatency, v2], .int .i64 n] w fun e w' => ∃ m : Int, e = .returned (.int .i64 m) ∧ -1 ≤ m ∧ m ≤ n ∧ (0 ≤ m → x.small) ∧ Below w.heap.size w w' := by
  have R2 := hide r2
  clear r2
  have hgs0 : x.fName.size ≤ 9223372036854775807 := hg.1
  have HG := hide hg; clear hg
  go_enter Tryz.func108, Tryz.ntmps108
  have HB0 := hide (show Below w.heap.size w (w.alloc (.cells #[.string x.fName, .int .i64 x.fLatency, v2] 195)) from (Below.refl _ _).alloc (Nat.le_refl _) _)
  have HK0 := hide (Bk.born w 195 #[.string x.fName, .int .i64 x.fLatency, v2])
  by_cases hs0 : n < x.fName.size
  · go_wp2
    go_ret
    exact ⟨-1, rfl, by omega, by omega, fun h => by omega, (by first | exact HB0.out | exact undrew HB0.out | exact Below.drew HB0.out | exact Below.drew (undrew HB0.out) | exact undrewN HB0.out | exact below_drewN HB0.out _)⟩
  go_wp2_with fail
  refine (c_szSendS _ x.fSends (n - x.fName.size) _ (by omega) (by omega) (T.rd_below R2.out HB0.out)).mono ?_; rintro e w1 ⟨m1, rfl, a1, b1, s1, hb⟩
  have HK1 := hide (HK0.out.below hb (by simp)); have HB1 := hide (bthen HB0.out (by simp) hb); clear hb
  have k1 := HK1.out.cell
  rcases Int.lt_or_le m1 0 with hn1 | hp1
  · go_wp2
    go_ret
    exact ⟨-1, rfl, by omega, by omega, fun h => by omega, HB1.out⟩
  have S1 := hide (s1 hp1); clear s1
  go_wp2
  go_ret
  exact ⟨m1, rfl, by omega, by omega, fun _ => ⟨by omega, S1.out⟩, HB1.out⟩
set_option maxHeartbeats 1000000 in
set_option maxRecDepth 20000 in
theorem c_szStripS (v : Value) (xs : List GStrip) (n : Int) (w : World) (h0 : 0 ≤ n) (h1 : n ≤ 1048576) (hg : ∀ y ∈ xs, GStrip.good y) (hr : T.rd w (T.sl 153 3 (xs.map GStrip.t)) [v]) :
    Calls Tryz.prog 55 #[v, .int .i64 n] w fun e w' => ∃ m : Int, e = .returned (.int .i64 m) ∧ -1 ≤ m ∧ m ≤ n ∧ (0 ≤ m → smL GStrip.small xs) ∧ Below w.heap.size w w' := by
  obtain ⟨A, cap, rfl, hl, hc, hx⟩ := T.rd_open hr
  rw [List.length_map] at hl ⊢
  have HX := hide hx; clear hx hr
  have HG := hide hg; clear hg
  by_cases h4 : n < xs.length
  · go_enter Tryz.func55, Tryz.ntmps55
    go_wp2
    go_ret
    exact ⟨-1, rfl, by omega, by omega, fun h => by omega, Below.refl _ _⟩
  · go_enter Tryz.func55, Tryz.ntmps55
    go_wp2
    go_loopw [1, 5] (fun t iv wr => ∃ (k : Nat) (m : Int), k ≤ xs.length ∧ iv = .int .i64 (k : Int) ∧ t = .int .i64 m ∧ 0 ≤ m ∧ m ≤ n - xs.length ∧ (∀ y ∈ xs.take k, (GStrip.small) y) ∧ Below w.heap.size w wr) (fun _ iv _ => xs.length - (intOf iv).toNat)
    case atStart => exact ⟨0, _, Nat.zero_le _, rfl, rfl, by omega, by omega, by simp, Below.refl _ _⟩
    case round =>
      obtain ⟨k, m, hk, rfl, rfl, hm0, hm1, ha, hb⟩ := hrel
      have HA := hide ha; have HB := hide hb; clear ha hb
      by_cases hlt : k < xs.length
      · have hgk := List.getElem?_eq_getElem hlt
        obtain ⟨b, off, cs, rfl, hbw, hcs, hcell⟩ := HX.out k (GStrip.t xs[k]) (by rw [List.getElem?_map, hgk]; rfl)
        have hgd := HG.out _ (List.getElem_mem hlt)
        generalize xs[k] = x at *
        have HGK := hide hgk; clear hgk
        obtain ⟨v2, rfl, hR2⟩ := GStrip.rd_open (show T.rds _ _ _ by simpa only [GStrip.t, T.rd] using hcs)
        have d0 := (HB.out.cell hbw).trans (hcell 0 (.string x.fName) rfl)
        have d1 := (HB.out.cell hbw).trans (hcell 1 (.int .i64 x.fLatency) rfl)
        have d2 := (HB.out.cell hbw).trans (hcell 2 (v2) rfl)
        rw [show off + (k * 3 + 0) = off + k * 3 by omega] at d0
        rw [show off + (k * 3 + 1) = off + k * 3 + 1 by omega] at d1
        rw [show off + (k * 3 + 2) = off + k * 3 + 2 by omega] at d2
        have R2 := hide (T.rd_below hR2 HB.out); clear hR2
        clear hcs hcell
        go_wp2_with fail
        refine (c_szStrip x v2 m _ hm0 (by omega) hgd R2.out).mono ?_; rintro e w3 ⟨q, rfl, hq0, hq1, hq2, hb3⟩
        have HB3 := hide (bthen HB.out HB.out.size hb3); clear hb3
        rcases Int.lt_or_le q 0 with hneg | hpos
        · have hq := hq2; clear hq2
          go_wp2
          go_ret
          exact ⟨-1, rfl, by omega, by omega, fun h => by omega, HB3.out⟩
        · have HQ := hide (hq2 hpos); clear hq2
          go_wp2
          go_roundw
          case rel => exact ⟨k + 1, q, by omega, by go_num, rfl, by omega, by omega, all_take HA.out HGK.out HQ.out, HB3.out⟩
          case measure => simp [intOf]; omega
      · obtain rfl : k = xs.length := by omega
        go_wp2
        go_ret
        exact ⟨m, rfl, by omega, by omega, fun _ => ⟨by omega, all_full HA.out⟩, HB.out⟩
set_option maxHeartbeats 1000000 in
set_option maxRecDepth 20000 in
theorem c_szMixer (x : GMixer) (v0 : Value) (n : Int) (w : World) (h0 : 0 ≤ n) (h1 : n ≤ 1048576) (hg : x.good) (r0 : T.rd w (T.sl 153 3 (x.fStrips.map GStrip.t)) [v0]) :
    Calls Tryz.prog 19 #[.agg #[v0], .int .i64 n] w fun e w' => ∃ m : Int, e = .returned (.int .i64 m) ∧ -1 ≤ m ∧ m ≤ n ∧ (0 ≤ m → x.small) ∧ Below w.heap.size w w' := by
  have R0 := hide r0
  clear r0
  have HG := hide hg; clear hg
  go_enter Tryz.func19, Tryz.ntmps19
  have HB0 := hide (show Below w.heap.size w (w.alloc (.cells #[v0] 28)) from (Below.refl _ _).alloc (Nat.le_refl _) _)
  have HK0 := hide (Bk.born w 28 #[v0])
  go_wp2_with fail
  refine (c_szStripS _ x.fStrips (n) _ (by omega) (by omega) (HG.out) (T.rd_below R0.out HB0.out)).mono ?_; rintro e w1 ⟨m1, rfl, a1, b1, s1, hb⟩
  have HK1 := hide (HK0.out.below hb (by simp)); have HB1 := hide (bthen HB0.out (by simp) hb); clear hb
  have k1 := HK1.out.cell
  rcases Int.lt_or_le m1 0 with hn1 | hp1
  · go_wp2
    go_ret
    exact ⟨-1, rfl, by omega, by omega, fun h => by omega, HB1.out⟩
  have S1 := hide (s1 hp1); clear s1
  go_wp2
  go_ret
  exact ⟨m1, rfl, by omega, by omega, fun _ => S1.out, HB1.out⟩
set_option maxHeartbeats 1000000 in
set_option maxRecDepth 20000 in
theorem c_szSession (x : GSession) (v1 : Value) (v2 : Value) (v3 : Value) (v4 : Value) (v5 : Value) (n : Int) (w : World) (h0 : 0 ≤ n) (h1 : n ≤ 1048576) (hg : x.good) (r1 : T.rd w (T.sl 24 1 (x.fSources.map (T.ints 2))) [v1]) (r2 : T.rd w (T.sl 114 1 (x.fTracks.map GTrack.t)) [v2]) (r3 : T.rd w (T.ints 2 x.fFeeds) [v3]) (r4 : T.rd w (T.sl 136 4 (x.fEffects.map GPatch.t)) [v4]) (r5 : T.rd w (T.sl 153 3 (x.fMixer.fStrips.map GStrip.t)) [v5]) :
    Calls Tryz.prog 5 #[.agg #[.int .i64 x.fLength, v1, v2, v3, v4, v5], .int .i64 n] w fun e w' => ∃ m : Int, e = .returned (.int .i64 m) ∧ -1 ≤ m ∧ m ≤ n ∧ (0 ≤ m → x.small) ∧ Below w.heap.size w w' := by
  have R1 := hide r1
  have R2 := hide r2
  have R3 := hide r3
  have R4 := hide r4
  have R5 := hide r5
  clear r1 r2 r3 r4 r5
  have HG := hide hg; clear hg
  go_enter Tryz.func5, Tryz.ntmps5
  have HB0 := hide (show Below w.heap.size w (w.alloc (.cells #[.int .i64 x.fLength, v1, v2, v3, v4, v5] 30)) from (Below.refl _ _).alloc (Nat.le_refl _) _)
  have HK0 := hide (Bk.born w 30 #[.int .i64 x.fLength, v1, v2, v3, v4, v5])
  go_wp2_with fail
  refine (c_szInt64SS _ x.fSources (n) _ (by omega) (by omega) (T.rd_below R1.out HB0.out)).mono ?_; rintro e w1 ⟨m1, rfl, a1, b1, s1, hb⟩
  have HK1 := hide (HK0.out.below hb (by simp)); have HB1 := hide (bthen HB0.out (by simp) hb); clear hb
  have k1 := HK1.out.cell
  rcases Int.lt_or_le m1 0 with hn1 | hp1
  · go_wp2
    go_ret
    exact ⟨-1, rfl, by omega, by omega, fun h => by omega, HB1.out⟩
  have S1 := hide (s1 hp1); clear s1
  go_wp2_with fail
  refine (c_szTrackS _ x.fTracks (m1) _ (by omega) (by omega) (HG.out.2.2.1) (T.rd_below R2.out HB1.out)).mono ?_; rintro e w2 ⟨m2, rfl, a2, b2, s2, hb⟩
  have HK2 := hide (HK1.out.below hb HK1.out.lt); have HB2 := hide (bthen HB1.out HB1.out.size hb); clear hb
  have k2 := HK2.out.cell
  rcases Int.lt_or_le m2 0 with hn2 | hp2
  · go_wp2
    go_ret
    exact ⟨-1, rfl, by omega, by omega, fun h => by omega, HB2.out⟩
  have S2 := hide (s2 hp2); clear s2
  go_wp2_with fail
  refine (c_szInt64S _ x.fFeeds (m2) _ (by omega) (by omega) (T.rd_below R3.out HB2.out)).mono ?_; rintro e w3 ⟨m3, rfl, a3, b3, s3, hb⟩
  have HK3 := hide (HK2.out.below hb HK2.out.lt); have HB3 := hide (bthen HB2.out HB2.out.size hb); clear hb
  have k3 := HK3.out.cell
  rcases Int.lt_or_le m3 0 with hn3 | hp3
  · go_wp2
    go_ret
    exact ⟨-1, rfl, by omega, by omega, fun h => by omega, HB3.out⟩
  have S3 := hide (s3 hp3); clear s3
  go_wp2_with fail
  refine (c_szPatchS _ x.fEffects (m3) _ (by omega) (by omega) (HG.out.2.2.2.2.1) (T.rd_below R4.out HB3.out)).mono ?_; rintro e w4 ⟨m4, rfl, a4, b4, s4, hb⟩
  have HK4 := hide (HK3.out.below hb HK3.out.lt); have HB4 := hide (bthen HB3.out HB3.out.size hb); clear hb
  have k4 := HK4.out.cell
  rcases Int.lt_or_le m4 0 with hn4 | hp4
  · go_wp2
    go_ret
    exact ⟨-1, rfl, by omega, by omega, fun h => by omega, HB4.out⟩
  have S4 := hide (s4 hp4); clear s4
  go_wp2_with fail
  refine (c_szMixer x.fMixer v5 (m4) _ (by omega) (by omega) (HG.out.2.2.2.2.2) (T.rd_below R5.out HB4.out)).mono ?_; rintro e w5 ⟨m5, rfl, a5, b5, s5, hb⟩
  have HK5 := hide (HK4.out.below hb HK4.out.lt); have HB5 := hide (bthen HB4.out HB4.out.size hb); clear hb
  have k5 := HK5.out.cell
  rcases Int.lt_or_le m5 0 with hn5 | hp5
  · go_wp2
    go_ret
    exact ⟨-1, rfl, by omega, by omega, fun h => by omega, HB5.out⟩
  have S5 := hide (s5 hp5); clear s5
  go_wp2
  go_ret
  exact ⟨m5, rfl, by omega, by omega, fun _ => ⟨S1.out, S2.out, S3.out, S4.out, S5.out⟩, HB5.out⟩
end Go.Proofs.YteiflbhcehajkaaGreatDoor
end
section
namespace Go.Proofs.YteiflbhcehajkaaGreatDoor
open Go.RowKit
theorem T.rds_below {w w' : World} {x : List T} {cs : List Value} (h : T.rds w x cs) (hb : Below w.heap.size w w') : T.rds w' x cs := T.rds_keep hb.size hb.block x cs h
theorem b_toSession (x : GSession) (cs : List Value) (w : World) (hs : x.small) (h : T.rds w x.fs cs) : Calls Tryz.prog 7 #[.agg cs.toArray] w fun e w' => ∃ ds, e = .returned (.agg ds.toArray) ∧ T.rds w' x.fs ds ∧ Below w.heap.size w w' := by
  obtain ⟨v1, v2, v3, v4, v5, rfl, h1, h2, h3, h4, h5⟩ := GSession.rd_open h
  refine (c_toSession x _ _ _ _ _ w hs h1 h2 h3 h4 h5).mono ?_
  rintro e w' ⟨u1, F1, u2, F2, u3, F3, u4, F4, u5, F5, rfl, o1, o2, o3, o4, o5, sg, hb⟩
  exact ⟨_, rfl, GSession.rd_mk (T.ow_rd _ _ _ o1) (T.ow_rd _ _ _ o2) (T.ow_rd _ _ _ o3) (T.ow_rd _ _ _ o4) (T.ow_rd _ _ _ o5), hb⟩
theorem b_eqSession (x : GSession) (cs ds : List Value) (w : World) (h : T.rds w x.fs cs) (g : T.rds w x.fs ds) : Calls Tryz.prog 9 #[.agg cs.toArray, .agg ds.toArray] w fun e w' => e = .returned (.bool true) ∧ Below w.heap.size w w' := by
  obtain ⟨v1, v2, v3, v4, v5, rfl, h1, h2, h3, h4, h5⟩ := GSession.rd_open h
  obtain ⟨u1, u2, u3, u4, u5, rfl, k1, k2, k3, k4, k5⟩ := GSession.rd_open g
  exact c_eqSession x _ _ _ _ _ _ _ _ _ _ w h1 h2 h3 h4 h5 k1 k2 k3 k4 k5
end Go.Proofs.YteiflbhcehajkaaGreatDoor
end
