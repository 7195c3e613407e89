/- Contracts: nested data compared with itself. -/
import Derived.Test.YteiflbhcehajkaaGreatDoorQAbExactSessionText
import Derived.Test.YteiflbhcehajkaaGreatDoorQAcExactSessionText
import Derived.Test.YteiflbhcehajkaaGreatDoorQAdExactSessionText
import Derived.Deep.RegionHeld3
set_option linter.unusedVariables false
set_option linter.unusedSimpArgs false
namespace Go.Proofs.YteiflbhcehajkaaGreatDoor
open Go.RowKit
theorem str_selfT (s : ByteArray) : (s.toList == s.toList) = true := by simp
theorem c_eqIB (v u : Value) (xs : List Int) (w : World) (hr : T.rd w (T.ints 2 xs) [v]) (ht : T.rd w (T.ints 2 xs) [u]) :
    Calls Tryz.prog 31 #[v, u] w fun e w' => e = .returned (.bool true) ∧ Below w.heap.size w w' :=
  (c_eqI v u xs w (T.rd_ints.1 hr) (T.rd_ints.1 ht)).mono fun e w' ⟨h1, h2⟩ => ⟨h1, h2.to_below _⟩
set_option maxHeartbeats 1000000 in
set_option maxRecDepth 20000 in
theorem c_eqInt64SS (v u : Value) (xs : List (List Int)) (w : World) (hr : T.rd w (T.sl 24 1 (xs.map (T.ints 2))) [v]) (ht : T.rd w (T.sl 24 1 (xs.map (T.ints 2))) [u]) :
    Calls Tryz.prog 29 #[v, u] w fun e w' => e = .returned (.bool true) ∧ Below w.heap.size w w' := by
  obtain ⟨A1, cap1, rfl, hl1, hc1, hx1⟩ := T.rd_open hr
  obtain ⟨A2, cap2, rfl, hl2, hc2, hx2⟩ := T.rd_open ht
  rw [List.length_map] at hl1 hl2 ⊢
  have HX1 := hide hx1; have HX2 := hide hx2; clear hx1 hx2 hr ht
  go_enter Tryz.func29, Tryz.ntmps29
  go_wp2
  go_loopw [5] (fun i wr => ∃ k : Nat, k ≤ xs.length ∧ i = .int .i64 k ∧ Below w.heap.size w wr) (fun i _ => xs.length - (intOf i).toNat)
  case atStart => exact ⟨0, Nat.zero_le _, rfl, Below.refl _ _⟩
  case round =>
    obtain ⟨k, hk, rfl, hb⟩ := hrel
    have HB := hide hb; clear hb
    by_cases hlt : k < xs.length
    · have hgk := List.getElem?_eq_getElem hlt
      obtain ⟨b1, o1, cs1, rfl, hbw1, hcs1, hcell1⟩ := HX1.out k (T.ints 2 xs[k]) (by rw [List.getElem?_map, hgk]; rfl)
      obtain ⟨v1, rfl⟩ := T.rd_one hcs1
      have d1 := (HB.out.cell hbw1).trans (hcell1 0 v1 rfl)
      rw [Nat.mul_one, Nat.add_zero] at d1
      have R1 := hide (T.rd_below hcs1 HB.out)
      have hq1 : b1 < wr.heap.size := Nat.lt_of_lt_of_le hbw1 HB.out.size
      clear hcs1 hcell1
      obtain ⟨b2, o2, cs2, rfl, hbw2, hcs2, hcell2⟩ := HX2.out k (T.ints 2 xs[k]) (by rw [List.getElem?_map, hgk]; rfl)
      obtain ⟨v2, rfl⟩ := T.rd_one hcs2
      have d2 := (HB.out.cell hbw2).trans (hcell2 0 v2 rfl)
      rw [Nat.mul_one, Nat.add_zero] at d2
      have R2 := hide (T.rd_below hcs2 HB.out)
      have hq2 : b2 < wr.heap.size := Nat.lt_of_lt_of_le hbw2 HB.out.size
      clear hcs2 hcell2
      generalize xs[k] = x at *
      clear hgk
      obtain ⟨sa1, sl1, sc1, rfl⟩ := T.rd_slice R1.out
      obtain ⟨sa2, sl2, sc2, rfl⟩ := T.rd_slice R2.out
      go_wp2
      go_region_held3 (fun w' => w'.cell? ⟨b1, o1 + k, none⟩ = some (.slice sa1 sl1 sc1) ∧ w'.cell? ⟨b2, o2 + k, none⟩ = some (.slice sa2 sl2 sc2)) (first | go_keep | (refine ⟨(hb3.cell ?_).trans ?_, (hb3.cell ?_).trans ?_⟩ <;> first | assumption | (simp [*]; done) | (simp; omega))) (first | (go_at_call 31; refine (c_eqIB _ _ x _ (T.rd_below R1.out (by first | exact Below.refl _ _ | exact Below.drew (Below.refl _ _) | exact below_drewN (Below.refl _ _) _)) (T.rd_below R2.out (by first | exact Below.refl _ _ | exact Below.drew (Below.refl _ _) | exact below_drewN (Below.refl _ _) _))).mono ?_; rintro e w3 ⟨rfl, hb3⟩))
      have hb4 : Below w.heap.size w w3 := bthen HB.out HB.out.size (by first | exact hb3 | exact undrew hb3 | exact undrewN hb3)
      have HB4 := hide hb4; clear hb4 hb3
      go_wp2
      go_roundw
      case rel => exact ⟨k + 1, by omega, by go_num, (by first | exact HB4.out | exact undrew HB4.out | exact Below.drew HB4.out | exact Below.drew (undrew HB4.out) | exact undrewN HB4.out | exact below_drewN HB4.out _)⟩
      case measure => simp [intOf]; omega
    · go_wp2
      go_ret
      exact ⟨rfl, HB.out⟩
set_option maxHeartbeats 1000000 in
set_option maxRecDepth 20000 in
theorem c_eqClip (x : GClip) (w : World) :
    Calls Tryz.prog 183 #[.agg #[.int .i64 x.fSource, .int .i64 x.fFrom, .int .i64 x.fLength, .int .i64 x.fAt, .int .i64 x.fGain], .agg #[.int .i64 x.fSource, .int .i64 x.fFrom, .int .i64 x.fLength, .int .i64 x.fAt, .int .i64 x.fGain]] w fun e w' => e = .returned (.bool true) ∧ Below w.heap.size w w' := by
  go_enter Tryz.func183, Tryz.ntmps183
  have HB0 := hide (show Below w.heap.size w ((w.alloc (.cells #[.int .i64 x.fSource, .int .i64 x.fFrom, .int .i64 x.fLength, .int .i64 x.fAt, .int .i64 x.fGain] 141)).alloc (.cells #[.int .i64 x.fSource, .int .i64 x.fFrom, .int .i64 x.fLength, .int .i64 x.fAt, .int .i64 x.fGain] 141)) from ((Below.refl _ _).alloc (Nat.le_refl _) _).alloc (by first | (simp; done) | (simp; omega) | omega) _)
  have HK0 := hide ((Bk.born w 141 #[.int .i64 x.fSource, .int .i64 x.fFrom, .int .i64 x.fLength, .int .i64 x.fAt, .int .i64 x.fGain]).alloc (.cells #[.int .i64 x.fSource, .int .i64 x.fFrom, .int .i64 x.fLength, .int .i64 x.fAt, .int .i64 x.fGain] 141))
  have HJ0 := hide (Bk.born1' w (.cells #[.int .i64 x.fSource, .int .i64 x.fFrom, .int .i64 x.fLength, .int .i64 x.fAt, .int .i64 x.fGain] 141) 141 #[.int .i64 x.fSource, .int .i64 x.fFrom, .int .i64 x.fLength, .int .i64 x.fAt, .int .i64 x.fGain])
  go_wp2
  go_ret
  exact ⟨rfl, HB0.out⟩
set_option maxHeartbeats 1000000 in
set_option maxRecDepth 20000 in
theorem c_eqClipS (v u : Value) (xs : List GClip) (w : World) (hr : T.rd w (T.sl 141 5 (xs.map GClip.t)) [v]) (ht : T.rd w (T.sl 141 5 (xs.map GClip.t)) [u]) :
    Calls Tryz.prog 132 #[v, u] w fun e w' => e = .returned (.bool true) ∧ Below w.heap.size w w' := by
  obtain ⟨A1, cap1, rfl, hl1, hc1, hx1⟩ := T.rd_open hr
  obtain ⟨A2, cap2, rfl, hl2, hc2, hx2⟩ := T.rd_open ht
  rw [List.length_map] at hl1 hl2 ⊢
  have HX1 := hide hx1; have HX2 := hide hx2; clear hx1 hx2 hr ht
  go_enter Tryz.func132, Tryz.ntmps132
  go_wp2
  go_loopw [5] (fun i wr => ∃ k : Nat, k ≤ xs.length ∧ i = .int .i64 k ∧ Below w.heap.size w wr) (fun i _ => xs.length - (intOf i).toNat)
  case atStart => exact ⟨0, Nat.zero_le _, rfl, Below.refl _ _⟩
  case round =>
    obtain ⟨k, hk, rfl, hb⟩ := hrel
    have HB := hide hb; clear hb
    by_cases hlt : k < xs.length
    · have hgk := List.getElem?_eq_getElem hlt
      obtain ⟨b1, o1, cs1, rfl, hbw1, hcs1, hcell1⟩ := HX1.out k (GClip.t xs[k]) (by rw [List.getElem?_map, hgk]; rfl)
      obtain ⟨b2, o2, cs2, rfl, hbw2, hcs2, hcell2⟩ := HX2.out k (GClip.t xs[k]) (by rw [List.getElem?_map, hgk]; rfl)
      generalize xs[k] = x at *
      clear hgk
      obtain rfl := GClip.rd_open (show T.rds _ _ _ by simpa only [GClip.t, T.rd] using hcs1)
      have d10 := (HB.out.cell hbw1).trans (hcell1 0 (.int .i64 x.fSource) rfl)
      have d11 := (HB.out.cell hbw1).trans (hcell1 1 (.int .i64 x.fFrom) rfl)
      have d12 := (HB.out.cell hbw1).trans (hcell1 2 (.int .i64 x.fLength) rfl)
      have d13 := (HB.out.cell hbw1).trans (hcell1 3 (.int .i64 x.fAt) rfl)
      have d14 := (HB.out.cell hbw1).trans (hcell1 4 (.int .i64 x.fGain) rfl)
      rw [show o1 + (k * 5 + 0) = o1 + k * 5 by omega] at d10
      rw [show o1 + (k * 5 + 1) = o1 + k * 5 + 1 by omega] at d11
      rw [show o1 + (k * 5 + 2) = o1 + k * 5 + 2 by omega] at d12
      rw [show o1 + (k * 5 + 3) = o1 + k * 5 + 3 by omega] at d13
      rw [show o1 + (k * 5 + 4) = o1 + k * 5 + 4 by omega] at d14
      clear hcs1 hcell1
      have hq1 : b1 < wr.heap.size := Nat.lt_of_lt_of_le hbw1 HB.out.size
      obtain rfl := GClip.rd_open (show T.rds _ _ _ by simpa only [GClip.t, T.rd] using hcs2)
      have d20 := (HB.out.cell hbw2).trans (hcell2 0 (.int .i64 x.fSource) rfl)
      have d21 := (HB.out.cell hbw2).trans (hcell2 1 (.int .i64 x.fFrom) rfl)
      have d22 := (HB.out.cell hbw2).trans (hcell2 2 (.int .i64 x.fLength) rfl)
      have d23 := (HB.out.cell hbw2).trans (hcell2 3 (.int .i64 x.fAt) rfl)
      have d24 := (HB.out.cell hbw2).trans (hcell2 4 (.int .i64 x.fGain) rfl)
      rw [show o2 + (k * 5 + 0) = o2 + k * 5 by omega] at d20
      rw [show o2 + (k * 5 + 1) = o2 + k * 5 + 1 by omega] at d21
      rw [show o2 + (k * 5 + 2) = o2 + k * 5 + 2 by omega] at d22
      rw [show o2 + (k * 5 + 3) = o2 + k * 5 + 3 by omega] at d23
      rw [show o2 + (k * 5 + 4) = o2 + k * 5 + 4 by omega] at d24
      clear hcs2 hcell2
      have hq2 : b2 < wr.heap.size := Nat.lt_of_lt_of_le hbw2 HB.out.size
      go_wp2
      go_region_held3 (fun w' => w'.cell? ⟨b1, o1 + k * 5, none⟩ = some (.int .i64 x.fSource) ∧ w'.cell? ⟨b1, o1 + k * 5 + 1, none⟩ = some (.int .i64 x.fFrom) ∧ w'.cell? ⟨b1, o1 + k * 5 + 2, none⟩ = some (.int .i64 x.fLength) ∧ w'.cell? ⟨b1, o1 + k * 5 + 3, none⟩ = some (.int .i64 x.fAt) ∧ w'.cell? ⟨b1, o1 + k * 5 + 4, none⟩ = some (.int .i64 x.fGain) ∧ w'.cell? ⟨b2, o2 + k * 5, none⟩ = some (.int .i64 x.fSource) ∧ w'.cell? ⟨b2, o2 + k * 5 + 1, none⟩ = some (.int .i64 x.fFrom) ∧ w'.cell? ⟨b2, o2 + k * 5 + 2, none⟩ = some (.int .i64 x.fLength) ∧ w'.cell? ⟨b2, o2 + k * 5 + 3, none⟩ = some (.int .i64 x.fAt) ∧ w'.cell? ⟨b2, o2 + k * 5 + 4, none⟩ = some (.int .i64 x.fGain)) (first | go_keep | (refine ⟨(hb3.cell ?_).trans ?_, (hb3.cell ?_).trans ?_, (hb3.cell ?_).trans ?_, (hb3.cell ?_).trans ?_, (hb3.cell ?_).trans ?_, (hb3.cell ?_).trans ?_, (hb3.cell ?_).trans ?_, (hb3.cell ?_).trans ?_, (hb3.cell ?_).trans ?_, (hb3.cell ?_).trans ?_⟩ <;> first | assumption | (simp [*]; done) | (simp; omega))) (first | (go_at_call 183; refine (c_eqClip x _).mono ?_; rintro e w3 ⟨rfl, hb3⟩))
      have hb4 : Below w.heap.size w w3 := bthen HB.out HB.out.size (by first | exact hb3 | exact undrew hb3 | exact undrewN hb3)
      have HB4 := hide hb4; clear hb4 hb3
      go_wp2
      go_roundw
      case rel => exact ⟨k + 1, by omega, by go_num, (by first | exact HB4.out | exact undrew HB4.out | exact Below.drew HB4.out | exact Below.drew (undrew HB4.out) | exact undrewN HB4.out | exact below_drewN HB4.out _)⟩
      case measure => simp [intOf]; omega
    · go_wp2
      go_ret
      exact ⟨rfl, HB.out⟩
set_option maxHeartbeats 1000000 in
set_option maxRecDepth 20000 in
theorem c_eqTrack (x : GTrack) (v0 : Value) (u0 : Value) (w : World) (r0 : T.rd w (T.sl 141 5 (x.fClips.map GClip.t)) [v0]) (t0 : T.rd w (T.sl 141 5 (x.fClips.map GClip.t)) [u0]) :
    Calls Tryz.prog 84 #[.agg #[v0], .agg #[u0]] w fun e w' => e = .returned (.bool true) ∧ Below w.heap.size w w' := by
  have R0 := hide r0; have Q0 := hide t0
  clear r0 t0
  go_enter Tryz.func84, Tryz.ntmps84
  have HB0 := hide (show Below w.heap.size w ((w.alloc (.cells #[v0] 114)).alloc (.cells #[u0] 114)) from ((Below.refl _ _).alloc (Nat.le_refl _) _).alloc (by first | (simp; done) | (simp; omega) | omega) _)
  have HK0 := hide ((Bk.born w 114 #[v0]).alloc (.cells #[u0] 114))
  have HJ0 := hide (Bk.born1' w (.cells #[v0] 114) 114 #[u0])
  go_wp2_with fail
  refine (c_eqClipS _ _ x.fClips _ (T.rd_below R0.out HB0.out) (T.rd_below Q0.out HB0.out)).mono ?_; rintro e w1 ⟨rfl, hb⟩
  have HK1 := hide (HK0.out.below hb HK0.out.lt); have HJ1 := hide (HJ0.out.below hb HJ0.out.lt); have HB1 := hide (bthen HB0.out HB0.out.size hb); clear hb
  have k1 := HK1.out.cell; have j1 := HJ1.out.cell
  go_wp2
  go_ret
  exact ⟨rfl, HB1.out⟩
set_option maxHeartbeats 1000000 in
set_option maxRecDepth 20000 in
theorem c_eqTrackS (v u : Value) (xs : List GTrack) (w : World) (hr : T.rd w (T.sl 114 1 (xs.map GTrack.t)) [v]) (ht : T.rd w (T.sl 114 1 (xs.map GTrack.t)) [u]) :
    Calls Tryz.prog 30 #[v, u] w fun e w' => e = .returned (.bool true) ∧ Below w.heap.size w w' := by
  obtain ⟨A1, cap1, rfl, hl1, hc1, hx1⟩ := T.rd_open hr
  obtain ⟨A2, cap2, rfl, hl2, hc2, hx2⟩ := T.rd_open ht
  rw [List.length_map] at hl1 hl2 ⊢
  have HX1 := hide hx1; have HX2 := hide hx2; clear hx1 hx2 hr ht
  go_enter Tryz.func30, Tryz.ntmps30
  go_wp2
  go_loopw [5] (fun i wr => ∃ k : Nat, k ≤ xs.length ∧ i = .int .i64 k ∧ Below w.heap.size w wr) (fun i _ => xs.length - (intOf i).toNat)
  case atStart => exact ⟨0, Nat.zero_le _, rfl, Below.refl _ _⟩
  case round =>
    obtain ⟨k, hk, rfl, hb⟩ := hrel
    have HB := hide hb; clear hb
    by_cases hlt : k < xs.length
    · have hgk := List.getElem?_eq_getElem hlt
      obtain ⟨b1, o1, cs1, rfl, hbw1, hcs1, hcell1⟩ := HX1.out k (GTrack.t xs[k]) (by rw [List.getElem?_map, hgk]; rfl)
      obtain ⟨b2, o2, cs2, rfl, hbw2, hcs2, hcell2⟩ := HX2.out k (GTrack.t xs[k]) (by rw [List.getElem?_map, hgk]; rfl)
      generalize xs[k] = x at *
      clear hgk
      obtain ⟨v0, rfl, hR10⟩ := GTrack.rd_open (show T.rds _ _ _ by simpa only [GTrack.t, T.rd] using hcs1)
      have d10 := (HB.out.cell hbw1).trans (hcell1 0 (v0) rfl)
      rw [show o1 + (k * 1 + 0) = o1 + k by omega] at d10
      have R10 := hide (T.rd_below hR10 HB.out); clear hR10
      clear hcs1 hcell1
      have hq1 : b1 < wr.heap.size := Nat.lt_of_lt_of_le hbw1 HB.out.size
      obtain ⟨u0, rfl, hR20⟩ := GTrack.rd_open (show T.rds _ _ _ by simpa only [GTrack.t, T.rd] using hcs2)
      have d20 := (HB.out.cell hbw2).trans (hcell2 0 (u0) rfl)
      rw [show o2 + (k * 1 + 0) = o2 + k by omega] at d20
      have R20 := hide (T.rd_below hR20 HB.out); clear hR20
      clear hcs2 hcell2
      have hq2 : b2 < wr.heap.size := Nat.lt_of_lt_of_le hbw2 HB.out.size
      obtain ⟨va0, vl0, vc0, rfl⟩ := T.rd_slice R10.out
      obtain ⟨ua0, ul0, uc0, rfl⟩ := T.rd_slice R20.out
      go_wp2
      go_region_held3 (fun w' => w'.cell? ⟨b1, o1 + k, none⟩ = some (.slice va0 vl0 vc0) ∧ w'.cell? ⟨b2, o2 + k, none⟩ = some (.slice ua0 ul0 uc0)) (first | go_keep | (refine ⟨(hb3.cell ?_).trans ?_, (hb3.cell ?_).trans ?_⟩ <;> first | assumption | (simp [*]; done) | (simp; omega))) (first | (go_at_call 84; refine (c_eqTrack x _ _ _ (T.rd_below R10.out (by first | exact Below.refl _ _ | exact Below.drew (Below.refl _ _) | exact below_drewN (Below.refl _ _) _)) (T.rd_below R20.out (by first | exact Below.refl _ _ | exact Below.drew (Below.refl _ _) | exact below_drewN (Below.refl _ _) _))).mono ?_; rintro e w3 ⟨rfl, hb3⟩))
      have hb4 : Below w.heap.size w w3 := bthen HB.out HB.out.size (by first | exact hb3 | exact undrew hb3 | exact undrewN hb3)
      have HB4 := hide hb4; clear hb4 hb3
      go_wp2
      go_roundw
      case rel => exact ⟨k + 1, by omega, by go_num, (by first | exact HB4.out | exact undrew HB4.out | exact Below.drew HB4.out | exact Below.drew (undrew HB4.out) | exact undrewN HB4.out | exact below_drewN HB4.out _)⟩
      case measure => simp [intOf]; omega
    · go_wp2
      go_ret
      exact ⟨rfl, HB.out⟩
set_option maxHeartbeats 1000000 in
set_option maxRecDepth 20000 in
theorem c_eqNode (x : GNode) (v3 : Value) (u3 : Value) (w : World) (r3 : T.rd w (T.ints 2 x.fFrom) [v3]) (t3 : T.rd w (T.ints 2 x.fFrom) [u3]) :
    Calls Tryz.prog 184 #[.agg #[.int .i64 x.fKind, .int .i64 x.fA, .int .i64 x.fB, v3], .agg #[.int .i64 x.fKind, .int .i64 x.fA, .int .i64 x.fB, u3]] w fun e w' => e = .returned (.bool true) ∧ Below w.heap.size w w' := by
  have R3 := hide r3; have Q3 := hide t3
  clear r3 t3
  go_enter Tryz.func184, Tryz.ntmps184
  have HB0 := hide (show Below w.heap.size w ((w.alloc (.cells #[.int .i64 x.fKind, .int .i64 x.fA, .int .i64 x.fB, v3] 207)).alloc (.cells #[.int .i64 x.fKind, .int .i64 x.fA, .int .i64 x.fB, u3] 207)) from ((Below.refl _ _).alloc (Nat.le_refl _) _).alloc (by first | (simp; done) | (simp; omega) | omega) _)
  have HK0 := hide ((Bk.born w 207 #[.int .i64 x.fKind, .int .i64 x.fA, .int .i64 x.fB, v3]).alloc (.cells #[.int .i64 x.fKind, .int .i64 x.fA, .int .i64 x.fB, u3] 207))
  have HJ0 := hide (Bk.born1' w (.cells #[.int .i64 x.fKind, .int .i64 x.fA, .int .i64 x.fB, v3] 207) 207 #[.int .i64 x.fKind, .int .i64 x.fA, .int .i64 x.fB, u3])
  go_wp2_with fail
  refine (c_eqIB _ _ x.fFrom _ (T.rd_below R3.out HB0.out) (T.rd_below Q3.out HB0.out)).mono ?_; rintro e w1 ⟨rfl, hb⟩
  have HK1 := hide (HK0.out.below hb HK0.out.lt); have HJ1 := hide (HJ0.out.below hb HJ0.out.lt); have HB1 := hide (bthen HB0.out HB0.out.size hb); clear hb
  have k1 := HK1.out.cell; have j1 := HJ1.out.cell
  go_wp2
  go_ret
  exact ⟨rfl, HB1.out⟩
set_option maxHeartbeats 1000000 in
set_option maxRecDepth 20000 in
theorem c_eqNodeS (v u : Value) (xs : List GNode) (w : World) (hr : T.rd w (T.sl 207 4 (xs.map GNode.t)) [v]) (ht : T.rd w (T.sl 207 4 (xs.map GNode.t)) [u]) :
    Calls Tryz.prog 133 #[v, u] w fun e w' => e = .returned (.bool true) ∧ Below w.heap.size w w' := by
  obtain ⟨A1, cap1, rfl, hl1, hc1, hx1⟩ := T.rd_open hr
  obtain ⟨A2, cap2, rfl, hl2, hc2, hx2⟩ := T.rd_open ht
  rw [List.length_map] at hl1 hl2 ⊢
  have HX1 := hide hx1; have HX2 := hide hx2; clear hx1 hx2 hr ht
  go_enter Tryz.func133, Tryz.ntmps133
  go_wp2
  go_loopw [5] (fun i wr => ∃ k : Nat, k ≤ xs.length ∧ i = .int .i64 k ∧ Below w.heap.size w wr) (fun i _ => xs.length - (intOf i).toNat)
  case atStart => exact ⟨0, Nat.zero_le _, rfl, Below.refl _ _⟩
  case round =>
    obtain ⟨k, hk, rfl, hb⟩ := hrel
    have HB := hide hb; clear hb
    by_cases hlt : k < xs.length
    · have hgk := List.getElem?_eq_getElem hlt
      obtain ⟨b1, o1, cs1, rfl, hbw1, hcs1, hcell1⟩ := HX1.out k (GNode.t xs[k]) (by rw [List.getElem?_map, hgk]; rfl)
      obtain ⟨b2, o2, cs2, rfl, hbw2, hcs2, hcell2⟩ := HX2.out k (GNode.t xs[k]) (by rw [List.getElem?_map, hgk]; rfl)
      generalize xs[k] = x at *
      clear hgk
      obtain ⟨v3, rfl, hR13⟩ := GNode.rd_open (show T.rds _ _ _ by simpa only [GNode.t, T.rd] using hcs1)
      have d10 := (HB.out.cell hbw1).trans (hcell1 0 (.int .i64 x.fKind) rfl)
      have d11 := (HB.out.cell hbw1).trans (hcell1 1 (.int .i64 x.fA) rfl)
      have d12 := (HB.out.cell hbw1).trans (hcell1 2 (.int .i64 x.fB) rfl)
      have d13 := (HB.out.cell hbw1).trans (hcell1 3 (v3) rfl)
      rw [show o1 + (k * 4 + 0) = o1 + k * 4 by omega] at d10
      rw [show o1 + (k * 4 + 1) = o1 + k * 4 + 1 by omega] at d11
      rw [show o1 + (k * 4 + 2) = o1 + k * 4 + 2 by omega] at d12
      rw [show o1 + (k * 4 + 3) = o1 + k * 4 + 3 by omega] at d13
      have R13 := hide (T.rd_below hR13 HB.out); clear hR13
      clear hcs1 hcell1
      have hq1 : b1 < wr.heap.size := Nat.lt_of_lt_of_le hbw1 HB.out.size
      obtain ⟨u3, rfl, hR23⟩ := GNode.rd_open (show T.rds _ _ _ by simpa only [GNode.t, T.rd] using hcs2)
      have d20 := (HB.out.cell hbw2).trans (hcell2 0 (.int .i64 x.fKind) rfl)
      have d21 := (HB.out.cell hbw2).trans (hcell2 1 (.int .i64 x.fA) rfl)
      have d22 := (HB.out.cell hbw2).trans (hcell2 2 (.int .i64 x.fB) rfl)
      have d23 := (HB.out.cell hbw2).trans (hcell2 3 (u3) rfl)
      rw [show o2 + (k * 4 + 0) = o2 + k * 4 by omega] at d20
      rw [show o2 + (k * 4 + 1) = o2 + k * 4 + 1 by omega] at d21
      rw [show o2 + (k * 4 + 2) = o2 + k * 4 + 2 by omega] at d22
      rw [show o2 + (k * 4 + 3) = o2 + k * 4 + 3 by omega] at d23
      have R23 := hide (T.rd_below hR23 HB.out); clear hR23
      clear hcs2 hcell2
      have hq2 : b2 < wr.heap.size := Nat.lt_of_lt_of_le hbw2 HB.out.size
      obtain ⟨va3, vl3, vc3, rfl⟩ := T.rd_slice R13.out
      obtain ⟨ua3, ul3, uc3, rfl⟩ := T.rd_slice R23.out
      go_wp2
      go_region_held3 (fun w' => w'.cell? ⟨b1, o1 + k * 4, none⟩ = some (.int .i64 x.fKind) ∧ w'.cell? ⟨b1, o1 + k * 4 + 1, none⟩ = some (.int .i64 x.fA) ∧ w'.cell? ⟨b1, o1 + k * 4 + 2, none⟩ = some (.int .i64 x.fB) ∧ w'.cell? ⟨b1, o1 + k * 4 + 3, none⟩ = some (.slice va3 vl3 vc3) ∧ w'.cell? ⟨b2, o2 + k * 4, none⟩ = some (.int .i64 x.fKind) ∧ w'.cell? ⟨b2, o2 + k * 4 + 1, none⟩ = some (.int .i64 x.fA) ∧ w'.cell? ⟨b2, o2 + k * 4 + 2, none⟩ = some (.int .i64 x.fB) ∧ w'.cell? ⟨b2, o2 + k * 4 + 3, none⟩ = some (.slice ua3 ul3 uc3)) (first | go_keep | (refine ⟨(hb3.cell ?_).trans ?_, (hb3.cell ?_).trans ?_, (hb3.cell ?_).trans ?_, (hb3.cell ?_).trans ?_, (hb3.cell ?_).trans ?_, (hb3.cell ?_).trans ?_, (hb3.cell ?_).trans ?_, (hb3.cell ?_).trans ?_⟩ <;> first | assumption | (simp [*]; done) | (simp; omega))) (first | (go_at_call 184; refine (c_eqNode x _ _ _ (T.rd_below R13.out (by first | exact Below.refl _ _ | exact Below.drew (Below.refl _ _) | exact below_drewN (Below.refl _ _) _)) (T.rd_below R23.out (by first | exact Below.refl _ _ | exact Below.drew (Below.refl _ _) | exact below_drewN (Below.refl _ _) _))).mono ?_; rintro e w3 ⟨rfl, hb3⟩))
      have hb4 : Below w.heap.size w w3 := bthen HB.out HB.out.size (by first | exact hb3 | exact undrew hb3 | exact undrewN hb3)
      have HB4 := hide hb4; clear hb4 hb3
      go_wp2
      go_roundw
      case rel => exact ⟨k + 1, by omega, by go_num, (by first | exact HB4.out | exact undrew HB4.out | exact Below.drew HB4.out | exact Below.drew (undrew HB4.out) | exact undrewN HB4.out | exact below_drewN HB4.out _)⟩
      case measure => simp [intOf]; omega
    · go_wp2
      go_ret
      exact ⟨rfl, HB.out⟩
set_option maxHeartbeats 1000000 in
set_option maxRecDepth 20000 in
theorem c_eqPatch (x : GPatch) (v1 : Value) (v2 : Value) (v3 : Value) (u1 : Value) (u2 : Value) (u3 : Value) (w : World) (r1 : T.rd w (T.sl 24 1 (x.fTables.map (T.ints 2))) [v1]) (r2 : T.rd w (T.sl 207 4 (x.fNodes.map GNode.t)) [v2]) (r3 : T.rd w (T.ints 2 x.fOutputs) [v3]) (t1 : T.rd w (T.sl 24 1 (x.fTables.map (T.ints 2))) [u1]) (t2 : T.rd w (T.sl 207 4 (x.fNodes.map GNode.t)) [u2]) (t3 : T.rd w (T.ints 2 x.fOutputs) [u3]) :
    Calls Tryz.prog 85 #[.agg #[.int .i64 x.fInputs, v1, v2, v3], .agg #[.int .i64 x.fInputs, u1, u2, u3]] w fun e w' => e = .returned (.bool true) ∧ Below w.heap.size w w' := by
  have R1 := hide r1; have Q1 := hide t1
  have R2 := hide r2; have Q2 := hide t2
  have R3 := hide r3; have Q3 := hide t3
  clear r1 t1 r2 t2 r3 t3
  go_enter Tryz.func85, Tryz.ntmps85
  have HB0 := hide (show Below w.heap.size w ((w.alloc (.cells #[.int .i64 x.fInputs, v1, v2, v3] 136)).alloc (.cells #[.int .i64 x.fInputs, u1, u2, u3] 136)) from ((Below.refl _ _).alloc (Nat.le_refl _) _).alloc (by first | (simp; done) | (simp; omega) | omega) _)
  have HK0 := hide ((Bk.born w 136 #[.int .i64 x.fInputs, v1, v2, v3]).alloc (.cells #[.int .i64 x.fInputs, u1, u2, u3] 136))
  have HJ0 := hide (Bk.born1' w (.cells #[.int .i64 x.fInputs, v1, v2, v3] 136) 136 #[.int .i64 x.fInputs, u1, u2, u3])
  go_wp2_with fail
  refine (c_eqInt64SS _ _ x.fTables _ (T.rd_below R1.out HB0.out) (T.rd_below Q1.out HB0.out)).mono ?_; rintro e w1 ⟨rfl, hb⟩
  have HK1 := hide (HK0.out.below hb HK0.out.lt); have HJ1 := hide (HJ0.out.below hb HJ0.out.lt); have HB1 := hide (bthen HB0.out HB0.out.size hb); clear hb
  have k1 := HK1.out.cell; have j1 := HJ1.out.cell
  go_wp2_with fail
  refine (c_eqNodeS _ _ x.fNodes _ (T.rd_below R2.out HB1.out) (T.rd_below Q2.out HB1.out)).mono ?_; rintro e w2 ⟨rfl, hb⟩
  have HK2 := hide (HK1.out.below hb HK1.out.lt); have HJ2 := hide (HJ1.out.below hb HJ1.out.lt); have HB2 := hide (bthen HB1.out HB1.out.size hb); clear hb
  have k2 := HK2.out.cell; have j2 := HJ2.out.cell
  go_wp2_with fail
  refine (c_eqIB _ _ x.fOutputs _ (T.rd_below R3.out HB2.out) (T.rd_below Q3.out HB2.out)).mono ?_; rintro e w3 ⟨rfl, hb⟩
  have HK3 := hide (HK2.out.below hb HK2.out.lt); have HJ3 := hide (HJ2.out.below hb HJ2.out.lt); have HB3 := hide (bthen HB2.out HB2.out.size hb); clear hb
  have k3 := HK3.out.cell; have j3 := HJ3.out.cell
  go_wp2
  go_ret
  exact ⟨rfl, HB3.out⟩
set_option maxHeartbeats 1000000 in
set_option maxRecDepth 20000 in
theorem c_eqPatchS (v u : Value) (xs : List GPatch) (w : World) (hr : T.rd w (T.sl 136 4 (xs.map GPatch.t)) [v]) (ht : T.rd w (T.sl 136 4 (xs.map GPatch.t)) [u]) :
    Calls Tryz.prog 32 #[v, u] w fun e w' => e = .returned (.bool true) ∧ Below w.heap.size w w' := by
  obtain ⟨A1, cap1, rfl, hl1, hc1, hx1⟩ := T.rd_open hr
  obtain ⟨A2, cap2, rfl, hl2, hc2, hx2⟩ := T.rd_open ht
  rw [List.length_map] at hl1 hl2 ⊢
  have HX1 := hide hx1; have HX2 := hide hx2; clear hx1 hx2 hr ht
  go_enter Tryz.func32, Tryz.ntmps32
  go_wp2
  go_loopw [5] (fun i wr => ∃ k : Nat, k ≤ xs.length ∧ i = .int .i64 k ∧ Below w.heap.size w wr) (fun i _ => xs.length - (intOf i).toNat)
  case atStart => exact ⟨0, Nat.zero_le _, rfl, Below.refl _ _⟩
  case round =>
    obtain ⟨k, hk, rfl, hb⟩ := hrel
    have HB := hide hb; clear hb
    by_cases hlt : k < xs.length
    · have hgk := List.getElem?_eq_getElem hlt
      obtain ⟨b1, o1, cs1, rfl, hbw1, hcs1, hcell1⟩ := HX1.out k (GPatch.t xs[k]) (by rw [List.getElem?_map, hgk]; rfl)
      obtain ⟨b2, o2, cs2, rfl, hbw2, hcs2, hcell2⟩ := HX2.out k (GPatch.t xs[k]) (by rw [List.getElem?_map, hgk]; rfl)
      generalize xs[k] = x at *
      clear hgk
      obtain ⟨v1, v2, v3, rfl, hR11, hR12, hR13⟩ := GPatch.rd_open (show T.rds _ _ _ by simpa only [GPatch.t, T.rd] using hcs1)
      have d10 := (HB.out.cell hbw1).trans (hcell1 0 (.int .i64 x.fInputs) rfl)
      have d11 := (HB.out.cell hbw1).trans (hcell1 1 (v1) rfl)
      have d12 := (HB.out.cell hbw1).trans (hcell1 2 (v2) rfl)
      have d13 := (HB.out.cell hbw1).trans (hcell1 3 (v3) rfl)
      rw [show o1 + (k * 4 + 0) = o1 + k * 4 by omega] at d10
      rw [show o1 + (k * 4 + 1) = o1 + k * 4 + 1 by omega] at d11
      rw [show o1 + (k * 4 + 2) = o1 + k * 4 + 2 by omega] at d12
      rw [show o1 + (k * 4 + 3) = o1 + k * 4 + 3 by omega] at d13
      have R11 := hide (T.rd_below hR11 HB.out); clear hR11
      have R12 := hide (T.rd_below hR12 HB.out); clear hR12
      have R13 := hide (T.rd_below hR13 HB.out); clear hR13
      clear hcs1 hcell1
      have hq1 : b1 < wr.heap.size := Nat.lt_of_lt_of_le hbw1 HB.out.size
      obtain ⟨u1, u2, u3, rfl, hR21, hR22, hR23⟩ := GPatch.rd_open (show T.rds _ _ _ by simpa only [GPatch.t, T.rd] using hcs2)
      have d20 := (HB.out.cell hbw2).trans (hcell2 0 (.int .i64 x.fInputs) rfl)
      have d21 := (HB.out.cell hbw2).trans (hcell2 1 (u1) rfl)
      have d22 := (HB.out.cell hbw2).trans (hcell2 2 (u2) rfl)
      have d23 := (HB.out.cell hbw2).trans (hcell2 3 (u3) rfl)
      rw [show o2 + (k * 4 + 0) = o2 + k * 4 by omega] at d20
      rw [show o2 + (k * 4 + 1) = o2 + k * 4 + 1 by omega] at d21
      rw [show o2 + (k * 4 + 2) = o2 + k * 4 + 2 by omega] at d22
      rw [show o2 + (k * 4 + 3) = o2 + k * 4 + 3 by omega] at d23
      have R21 := hide (T.rd_below hR21 HB.out); clear hR21
      have R22 := hide (T.rd_below hR22 HB.out); clear hR22
      have R23 := hide (T.rd_below hR23 HB.out); clear hR23
      clear hcs2 hcell2
      have hq2 : b2 < wr.heap.size := Nat.lt_of_lt_of_le hbw2 HB.out.size
      obtain ⟨va1, vl1, vc1, rfl⟩ := T.rd_slice R11.out
      obtain ⟨va2, vl2, vc2, rfl⟩ := T.rd_slice R12.out
      obtain ⟨va3, vl3, vc3, rfl⟩ := T.rd_slice R13.out
      obtain ⟨ua1, ul1, uc1, rfl⟩ := T.rd_slice R21.out
      obtain ⟨ua2, ul2, uc2, rfl⟩ := T.rd_slice R22.out
      obtain ⟨ua3, ul3, uc3, rfl⟩ := T.rd_slice R23.out
      go_wp2
      go_region_held3 (fun w' => w'.cell? ⟨b1, o1 + k * 4, none⟩ = some (.int .i64 x.fInputs) ∧ w'.cell? ⟨b1, o1 + k * 4 + 1, none⟩ = some (.slice va1 vl1 vc1) ∧ w'.cell? ⟨b1, o1 + k * 4 + 2, none⟩ = some (.slice va2 vl2 vc2) ∧ w'.cell? ⟨b1, o1 + k * 4 + 3, none⟩ = some (.slice va3 vl3 vc3) ∧ w'.cell? ⟨b2, o2 + k * 4, none⟩ = some (.int .i64 x.fInputs) ∧ w'.cell? ⟨b2, o2 + k * 4 + 1, none⟩ = some (.slice ua1 ul1 uc1) ∧ w'.cell? ⟨b2, o2 + k * 4 + 2, none⟩ = some (.slice ua2 ul2 uc2) ∧ w'.cell? ⟨b2, o2 + k * 4 + 3, none⟩ = some (.slice ua3 ul3 uc3)) (first | go_keep | (refine ⟨(hb3.cell ?_).trans ?_, (hb3.cell ?_).trans ?_, (hb3.cell ?_).trans ?_, (hb3.cell ?_).trans ?_, (hb3.cell ?_).trans ?_, (hb3.cell ?_).trans ?_, (hb3.cell ?_).trans ?_, (hb3.cell ?_).trans ?_⟩ <;> first | assumption | (simp [*]; done) | (simp; omega))) (first | (go_at_call 85; refine (c_eqPatch x _ _ _ _ _ _ _ (T.rd_below R11.out (by first | exact Below.refl _ _ | exact Below.drew (Below.refl _ _) | exact below_drewN (Below.refl _ _) _)) (T.rd_below R12.out (by first | exact Below.refl _ _ | exact Below.drew (Below.refl _ _) | exact below_drewN (Below.refl _ _) _)) (T.rd_below R13.out (by first | exact Below.refl _ _ | exact Below.drew (Below.refl _ _) | exact below_drewN (Below.refl _ _) _)) (T.rd_below R21.out (by first | exact Below.refl _ _ | exact Below.drew (Below.refl _ _) | exact below_drewN (Below.refl _ _) _)) (T.rd_below R22.out (by first | exact Below.refl _ _ | exact Below.drew (Below.refl _ _) | exact below_drewN (Below.refl _ _) _)) (T.rd_below R23.out (by first | exact Below.refl _ _ | exact Below.drew (Below.refl _ _) | exact below_drewN (Below.refl _ _) _))).mono ?_; rintro e w3 ⟨rfl, hb3⟩))
      have hb4 : Below w.heap.size w w3 := bthen HB.out HB.out.size (by first | exact hb3 | exact undrew hb3 | exact undrewN hb3)
      have HB4 := hide hb4; clear hb4 hb3
      go_wp2
      go_roundw
      case rel => exact ⟨k + 1, by omega, by go_num, (by first | exact HB4.out | exact undrew HB4.out | exact Below.drew HB4.out | exact Below.drew (undrew HB4.out) | exact undrewN HB4.out | exact below_drewN HB4.out _)⟩
      case measure => simp [intOf]; omega
    · go_wp2
      go_ret
      exact ⟨rfl, HB.out⟩
set_option maxHeartbeats 1000000 in
set_option maxRecDepth 20000 in
theorem c_eqSend (x : GSend) (w : World) :
    Calls Tryz.prog 216 #[.agg #[.int .i64 x.fTo, .int .i64 x.fGain], .agg #[.int .i64 x.fTo, .int .i64 x.fGain]] w fun e w' => e = .returned (.bool true) ∧ Below w.heap.size w w' := by
  go_enter Tryz.func216, Tryz.ntmps216
  have HB0 := hide (show Below w.heap.size w ((w.alloc (.cells #[.int .i64 x.fTo, .int .i64 x.fGain] 203)).alloc (.cells #[.int .i64 x.fTo, .int .i64 x.fGain] 203)) from ((Below.refl _ _).alloc (Nat.le_refl _) _).alloc (by first | (simp; done) | (simp; omega) | omega) _)
  have HK0 := hide ((Bk.born w 203 #[.int .i64 x.fTo, .int .i64 x.fGain]).alloc (.cells #[.int .i64 x.fTo, .int .i64 x.fGain] 203))
  have HJ0 := hide (Bk.born1' w (.cells #[.int .i64 x.fTo, .int .i64 x.fGain] 203) 203 #[.int .i64 x.fTo, .int .i64 x.fGain])
  go_wp2
  go_ret
  exact ⟨rfl, HB0.out⟩
set_option maxHeartbeats 1000000 in
set_option maxRecDepth 20000 in
theorem c_eqSendS (v u : Value) (xs : List GSend) (w : World) (hr : T.rd w (T.sl 203 2 (xs.map GSend.t)) [v]) (ht : T.rd w (T.sl 203 2 (xs.map GSend.t)) [u]) :
    Calls Tryz.prog 185 #[v, u] w fun e w' => e = .returned (.bool true) ∧ Below w.heap.size w w' := by
  obtain ⟨A1, cap1, rfl, hl1, hc1, hx1⟩ := T.rd_open hr
  obtain ⟨A2, cap2, rfl, hl2, hc2, hx2⟩ := T.rd_open ht
  rw [List.length_map] at hl1 hl2 ⊢
  have HX1 := hide hx1; have HX2 := hide hx2; clear hx1 hx2 hr ht
  go_enter Tryz.func185, Tryz.ntmps185
  go_wp2
  go_loopw [5] (fun i wr => ∃ k : Nat, k ≤ xs.length ∧ i = .int .i64 k ∧ Below w.heap.size w wr) (fun i _ => xs.length - (intOf i).toNat)
  case atStart => exact ⟨0, Nat.zero_le _, rfl, Below.refl _ _⟩
  case round =>
    obtain ⟨k, hk, rfl, hb⟩ := hrel
    have HB := hide hb; clear hb
    by_cases hlt : k < xs.length
    · have hgk := List.getElem?_eq_getElem hlt
      obtain ⟨b1, o1, cs1, rfl, hbw1, hcs1, hcell1⟩ := HX1.out k (GSend.t xs[k]) (by rw [List.getElem?_map, hgk]; rfl)
      obtain ⟨b2, o2, cs2, rfl, hbw2, hcs2, hcell2⟩ := HX2.out k (GSend.t xs[k]) (by rw [List.getElem?_map, hgk]; rfl)
      generalize xs[k] = x at *
      clear hgk
      obtain rfl := GSend.rd_open (show T.rds _ _ _ by simpa only [GSend.t, T.rd] using hcs1)
      have d10 := (HB.out.cell hbw1).trans (hcell1 0 (.int .i64 x.fTo) rfl)
      have d11 := (HB.out.cell hbw1).trans (hcell1 1 (.int .i64 x.fGain) rfl)
      rw [show o1 + (k * 2 + 0) = o1 + k * 2 by omega] at d10
      rw [show o1 + (k * 2 + 1) = o1 + k * 2 + 1 by omega] at d11
      clear hcs1 hcell1
      have hq1 : b1 < wr.heap.size := Nat.lt_of_lt_of_le hbw1 HB.out.size
      obtain rfl := GSend.rd_open (show T.rds _ _ _ by simpa only [GSend.t, T.rd] using hcs2)
      have d20 := (HB.out.cell hbw2).trans (hcell2 0 (.int .i64 x.fTo) rfl)
      have d21 := (HB.out.cell hbw2).trans (hcell2 1 (.int .i64 x.fGain) rfl)
      rw [show o2 + (k * 2 + 0) = o2 + k * 2 by omega] at d20
      rw [show o2 + (k * 2 + 1) = o2 + k * 2 + 1 by omega] at d21
      clear hcs2 hcell2
      have hq2 : b2 < wr.heap.size := Nat.lt_of_lt_of_le hbw2 HB.out.size
      go_wp2
      go_region_held3 (fun w' => w'.cell? ⟨b1, o1 + k * 2, none⟩ = some (.int .i64 x.fTo) ∧ w'.cell? ⟨b1, o1 + k * 2 + 1, none⟩ = some (.int .i64 x.fGain) ∧ w'.cell? ⟨b2, o2 + k * 2, none⟩ = some (.int .i64 x.fTo) ∧ w'.cell? ⟨b2, o2 + k * 2 + 1, none⟩ = some (.int .i64 x.fGain)) (first | go_keep | (refine ⟨(hb3.cell ?_).trans ?_, (hb3.cell ?_).trans ?_, (hb3.cell ?_).trans ?_, (hb3.cell ?_).trans ?_⟩ <;> first | assumption | (simp [*]; done) | (simp; omega))) (first | (go_at_call 216; refine (c_eqSend x _).mono ?_; rintro e w3 ⟨rfl, hb3⟩))
      have hb4 : Below w.heap.size w w3 := bthen HB.out HB.out.size (by first | exact hb3 | exact undrew hb3 | exact undrewN hb3)
      have HB4 := hide hb4; clear hb4 hb3
      go_wp2
      go_roundw
      case rel => exact ⟨k + 1, by omega, by go_num, (by first | exact HB4.out | exact undrew HB4.out | exact Below.drew HB4.out | exact Below.drew (undrew HB4.out) | exact undrewN HB4.out | exact below_drewN HB4.out _)⟩
      case measure => simp [intOf]; omega
    · go_wp2
      go_ret
      exact ⟨rfl, HB.out⟩
set_option maxHeartbeats 1000000 in
set_option maxRecDepth 20000 in
theorem c_eqStrip (x : GStrip) (v2 : Value) (u2 : Value) (w : World) (r2 : T.rd w (T.sl 203 2 (x.fSends.map GSend.t)) [v2]) (t2 : T.rd w (T.sl 203 2 (x.fSends.map GSend.t)) [u2]) :
    Calls Tryz.prog 134 #[.agg #[.string x.fName, .int .i64 x.fLatency, v2], .agg #[.string x.fName, .int .i64 x.fLatency, u2]] w fun e w' => e = .returned (.bool true) ∧ Below w.heap.size w w' := by
  have R2 := hide r2; have Q2 := hide t2
  clear r2 t2
  have hse0 := str_selfT x.fName
  go_enter Tryz.func134, Tryz.ntmps134
  have HB0 := hide (show Below w.heap.size w ((w.alloc (.cells #[.string x.fName, .int .i64 x.fLatency, v2] 153)).alloc (.cells #[.string x.fName, .int .i64 x.fLatency, u2] 153)) from ((Below.refl _ _).alloc (Nat.le_refl _) _).alloc (by first | (simp; done) | (simp; omega) | omega) _)
  have HK0 := hide ((Bk.born w 153 #[.string x.fName, .int .i64 x.fLatency, v2]).alloc (.cells #[.string x.fName, .int .i64 x.fLatency, u2] 153))
  have HJ0 := hide (Bk.born1' w (.cells #[.string x.fName, .int .i64 x.fLatency, v2] 153) 153 #[.string x.fName, .int .i64 x.fLatency, u2])
  go_wp2_with fail
  refine (c_eqSendS _ _ x.fSends _ (T.rd_below R2.out HB0.out) (T.rd_below Q2.out HB0.out)).mono ?_; rintro e w1 ⟨rfl, hb⟩
  have HK1 := hide (HK0.out.below hb HK0.out.lt); have HJ1 := hide (HJ0.out.below hb HJ0.out.lt); have HB1 := hide (bthen HB0.out HB0.out.size hb); clear hb
  have k1 := HK1.out.cell; have j1 := HJ1.out.cell
  go_wp2
  go_ret
  exact ⟨rfl, HB1.out⟩
set_option maxHeartbeats 1000000 in
set_option maxRecDepth 20000 in
theorem c_eqStripS (v u : Value) (xs : List GStrip) (w : World) (hr : T.rd w (T.sl 153 3 (xs.map GStrip.t)) [v]) (ht : T.rd w (T.sl 153 3 (xs.map GStrip.t)) [u]) :
    Calls Tryz.prog 86 #[v, u] w fun e w' => e = .returned (.bool true) ∧ Below w.heap.size w w' := by
  obtain ⟨A1, cap1, rfl, hl1, hc1, hx1⟩ := T.rd_open hr
  obtain ⟨A2, cap2, rfl, hl2, hc2, hx2⟩ := T.rd_open ht
  rw [List.length_map] at hl1 hl2 ⊢
  have HX1 := hide hx1; have HX2 := hide hx2; clear hx1 hx2 hr ht
  go_enter Tryz.func86, Tryz.ntmps86
  go_wp2
  go_loopw [5] (fun i wr => ∃ k : Nat, k ≤ xs.length ∧ i = .int .i64 k ∧ Below w.heap.size w wr) (fun i _ => xs.length - (intOf i).toNat)
  case atStart => exact ⟨0, Nat.zero_le _, rfl, Below.refl _ _⟩
  case round =>
    obtain ⟨k, hk, rfl, hb⟩ := hrel
    have HB := hide hb; clear hb
    by_cases hlt : k < xs.length
    · have hgk := List.getElem?_eq_getElem hlt
      obtain ⟨b1, o1, cs1, rfl, hbw1, hcs1, hcell1⟩ := HX1.out k (GStrip.t xs[k]) (by rw [List.getElem?_map, hgk]; rfl)
      obtain ⟨b2, o2, cs2, rfl, hbw2, hcs2, hcell2⟩ := HX2.out k (GStrip.t xs[k]) (by rw [List.getElem?_map, hgk]; rfl)
      generalize xs[k] = x at *
      clear hgk
      obtain ⟨v2, rfl, hR12⟩ := GStrip.rd_open (show T.rds _ _ _ by simpa only [GStrip.t, T.rd] using hcs1)
      have d10 := (HB.out.cell hbw1).trans (hcell1 0 (.string x.fName) rfl)
      have d11 := (HB.out.cell hbw1).trans (hcell1 1 (.int .i64 x.fLatency) rfl)
      have d12 := (HB.out.cell hbw1).trans (hcell1 2 (v2) rfl)
      rw [show o1 + (k * 3 + 0) = o1 + k * 3 by omega] at d10
      rw [show o1 + (k * 3 + 1) = o1 + k * 3 + 1 by omega] at d11
      rw [show o1 + (k * 3 + 2) = o1 + k * 3 + 2 by omega] at d12
      have R12 := hide (T.rd_below hR12 HB.out); clear hR12
      clear hcs1 hcell1
      have hq1 : b1 < wr.heap.size := Nat.lt_of_lt_of_le hbw1 HB.out.size
      obtain ⟨u2, rfl, hR22⟩ := GStrip.rd_open (show T.rds _ _ _ by simpa only [GStrip.t, T.rd] using hcs2)
      have d20 := (HB.out.cell hbw2).trans (hcell2 0 (.string x.fName) rfl)
      have d21 := (HB.out.cell hbw2).trans (hcell2 1 (.int .i64 x.fLatency) rfl)
      have d22 := (HB.out.cell hbw2).trans (hcell2 2 (u2) rfl)
      rw [show o2 + (k * 3 + 0) = o2 + k * 3 by omega] at d20
      rw [show o2 + (k * 3 + 1) = o2 + k * 3 + 1 by omega] at d21
      rw [show o2 + (k * 3 + 2) = o2 + k * 3 + 2 by omega] at d22
      have R22 := hide (T.rd_below hR22 HB.out); clear hR22
      clear hcs2 hcell2
      have hq2 : b2 < wr.heap.size := Nat.lt_of_lt_of_le hbw2 HB.out.size
      obtain ⟨va2, vl2, vc2, rfl⟩ := T.rd_slice R12.out
      obtain ⟨ua2, ul2, uc2, rfl⟩ := T.rd_slice R22.out
      go_wp2
      go_region_held3 (fun w' => w'.cell? ⟨b1, o1 + k * 3, none⟩ = some (.string x.fName) ∧ w'.cell? ⟨b1, o1 + k * 3 + 1, none⟩ = some (.int .i64 x.fLatency) ∧ w'.cell? ⟨b1, o1 + k * 3 + 2, none⟩ = some (.slice va2 vl2 vc2) ∧ w'.cell? ⟨b2, o2 + k * 3, none⟩ = some (.string x.fName) ∧ w'.cell? ⟨b2, o2 + k * 3 + 1, none⟩ = some (.int .i64 x.fLatency) ∧ w'.cell? ⟨b2, o2 + k * 3 + 2, none⟩ = some (.slice ua2 ul2 uc2)) (first | go_keep | (refine ⟨(hb3.cell ?_).trans ?_, (hb3.cell ?_).trans ?_, (hb3.cell ?_).trans ?_, (hb3.cell ?_).trans ?_, (hb3.cell ?_).trans ?_, (hb3.cell ?_).trans ?_⟩ <;> first | assumption | (simp [*]; done) | (simp; omega))) (first | (go_at_call 134; refine (c_eqStrip x _ _ _ (T.rd_below R12.out (by first | exact Below.refl _ _ | exact Below.drew (Below.refl _ _) | exact below_drewN (Below.refl _ _) _)) (T.rd_below R22.out (by first | exact Below.refl _ _ | exact Below.drew (Below.refl _ _) | exact below_drewN (Below.refl _ _) _))).mono ?_; rintro e w3 ⟨rfl, hb3⟩))
      have hb4 : Below w.heap.size w w3 := bthen HB.out HB.out.size (by first | exact hb3 | exact undrew hb3 | exact undrewN hb3)
      have HB4 := hide hb4; clear hb4 hb3
      go_wp2
      go_roundw
      case rel => exact ⟨k + 1, by omega, by go_num, (by first | exact HB4.out | exact undrew HB4.out | exact Below.drew HB4.out | exact Below.drew (undrew HB4.out) | exact undrewN HB4.out | exact below_drewN HB4.out _)⟩
      case measure => simp [intOf]; omega
    · go_wp2
      go_ret
      exact ⟨rfl, HB.out⟩
set_option maxHeartbeats 1000000 in
set_option maxRecDepth 20000 in
theorem c_eqMixer (x : GMixer) (v0 : Value) (u0 : Value) (w : World) (r0 : T.rd w (T.sl 153 3 (x.fStrips.map GStrip.t)) [v0]) (t0 : T.rd w (T.sl 153 3 (x.fStrips.map GStrip.t)) [u0]) :
    Calls Tryz.prog 33 #[.agg #[v0], .agg #[u0]] w fun e w' => e = .returned (.bool true) ∧ Below w.heap.size w w' := by
  have R0 := hide r0; have Q0 := hide t0
  clear r0 t0
  go_enter Tryz.func33, Tryz.ntmps33
  have HB0 := hide (show Below w.heap.size w ((w.alloc (.cells #[v0] 37)).alloc (.cells #[u0] 37)) from ((Below.refl _ _).alloc (Nat.le_refl _) _).alloc (by first | (simp; done) | (simp; omega) | omega) _)
  have HK0 := hide ((Bk.born w 37 #[v0]).alloc (.cells #[u0] 37))
  have HJ0 := hide (Bk.born1' w (.cells #[v0] 37) 37 #[u0])
  go_wp2_with fail
  refine (c_eqStripS _ _ x.fStrips _ (T.rd_below R0.out HB0.out) (T.rd_below Q0.out HB0.out)).mono ?_; rintro e w1 ⟨rfl, hb⟩
  have HK1 := hide (HK0.out.below hb HK0.out.lt); have HJ1 := hide (HJ0.out.below hb HJ0.out.lt); have HB1 := hide (bthen HB0.out HB0.out.size hb); clear hb
  have k1 := HK1.out.cell; have j1 := HJ1.out.cell
  go_wp2
  go_ret
  exact ⟨rfl, HB1.out⟩
set_option maxHeartbeats 1000000 in
set_option maxRecDepth 20000 in
theorem c_eqSession (x : GSession) (v1 : Value) (v2 : Value) (v3 : Value) (v4 : Value) (v5 : Value) (u1 : Value) (u2 : Value) (u3 : Value) (u4 : Value) (u5 : Value) (w : World) (r1 : T.rd w (T.sl 24 1 (x.fSources.map (T.ints 2))) [v1]) (r2 : T.rd w (T.sl 114 1 (x.fTracks.map GTrack.t)) [v2]) (r3 : T.rd w (T.ints 2 x.fFeeds) [v3]) (r4 : T.rd w (T.sl 136 4 (x.fEffects.map GPatch.t)) [v4]) (r5 : T.rd w (T.sl 153 3 (x.fMixer.fStrips.map GStrip.t)) [v5]) (t1 : T.rd w (T.sl 24 1 (x.fSources.map (T.ints 2))) [u1]) (t2 : T.rd w (T.sl 114 1 (x.fTracks.map GTrack.t)) [u2]) (t3 : T.rd w (T.ints 2 x.fFeeds) [u3]) (t4 : T.rd w (T.sl 136 4 (x.fEffects.map GPatch.t)) [u4]) (t5 : T.rd w (T.sl 153 3 (x.fMixer.fStrips.map GStrip.t)) [u5]) :
    Calls Tryz.prog 9 #[.agg #[.int .i64 x.fLength, v1, v2, v3, v4, v5], .agg #[.int .i64 x.fLength, u1, u2, u3, u4, u5]] w fun e w' => e = .returned (.bool true) ∧ Below w.heap.size w w' := by
  have R1 := hide r1; have Q1 := hide t1
  have R2 := hide r2; have Q2 := hide t2
  have R3 := hide r3; have Q3 := hide t3
  have R4 := hide r4; have Q4 := hide t4
  have R5 := hide r5; have Q5 := hide t5
  clear r1 t1 r2 t2 r3 t3 r4 t4 r5 t5
  go_enter Tryz.func9, Tryz.ntmps9
  have HB0 := hide (show Below w.heap.size w ((w.alloc (.cells #[.int .i64 x.fLength, v1, v2, v3, v4, v5] 39)).alloc (.cells #[.int .i64 x.fLength, u1, u2, u3, u4, u5] 39)) from ((Below.refl _ _).alloc (Nat.le_refl _) _).alloc (by first | (simp; done) | (simp; omega) | omega) _)
  have HK0 := hide ((Bk.born w 39 #[.int .i64 x.fLength, v1, v2, v3, v4, v5]).alloc (.cells #[.int .i64 x.fLength, u1, u2, u3, u4, u5] 39))
  have HJ0 := hide (Bk.born1' w (.cells #[.int .i64 x.fLength, v1, v2, v3, v4, v5] 39) 39 #[.int .i64 x.fLength, u1, u2, u3, u4, u5])
  go_wp2_with fail
  refine (c_eqInt64SS _ _ x.fSources _ (T.rd_below R1.out HB0.out) (T.rd_below Q1.out HB0.out)).mono ?_; rintro e w1 ⟨rfl, hb⟩
  have HK1 := hide (HK0.out.below hb HK0.out.lt); have HJ1 := hide (HJ0.out.below hb HJ0.out.lt); have HB1 := hide (bthen HB0.out HB0.out.size hb); clear hb
  have k1 := HK1.out.cell; have j1 := HJ1.out.cell
  go_wp2_with fail
  refine (c_eqTrackS _ _ x.fTracks _ (T.rd_below R2.out HB1.out) (T.rd_below Q2.out HB1.out)).mono ?_; rintro e w2 ⟨rfl, hb⟩
  have HK2 := hide (HK1.out.below hb HK1.out.lt); have HJ2 := hide (HJ1.out.below hb HJ1.out.lt); have HB2 := hide (bthen HB1.out HB1.out.size hb); clear hb
  have k2 := HK2.out.cell; have j2 := HJ2.out.cell
  go_wp2_with fail
  refine (c_eqIB _ _ x.fFeeds _ (T.rd_below R3.out HB2.out) (T.rd_below Q3.out HB2.out)).mono ?_; rintro e w3 ⟨rfl, hb⟩
  have HK3 := hide (HK2.out.below hb HK2.out.lt); have HJ3 := hide (HJ2.out.below hb HJ2.out.lt); have HB3 := hide (bthen HB2.out HB2.out.size hb); clear hb
  have k3 := HK3.out.cell; have j3 := HJ3.out.cell
  go_wp2_with fail
  refine (c_eqPatchS _ _ x.fEffects _ (T.rd_below R4.out HB3.out) (T.rd_below Q4.out HB3.out)).mono ?_; rintro e w4 ⟨rfl, hb⟩
  have HK4 := hide (HK3.out.below hb HK3.out.lt); have HJ4 := hide (HJ3.out.below hb HJ3.out.lt); have HB4 := hide (bthen HB3.out HB3.out.size hb); clear hb
  have k4 := HK4.out.cell; have j4 := HJ4.out.cell
  go_wp2_with fail
  refine (c_eqMixer x.fMixer v5 u5 _ (T.rd_below R5.out HB4.out) (T.rd_below Q5.out HB4.out)).mono ?_; rintro e w5 ⟨rfl, hb⟩
  have HK5 := hide (HK4.out.below hb HK4.out.lt); have HJ5 := hide (HJ4.out.below hb HJ4.out.lt); have HB5 := hide (bthen HB4.out HB4.out.size hb); clear hb
  have k5 := HK5.out.cell; have j5 := HJ5.out.cell
  go_wp2
  go_ret
  exact ⟨rfl, HB5.out⟩
end Go.Proofs.YteiflbhcehajkaaGreatDoor
