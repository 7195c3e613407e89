/- Contracts: slices of edits. Contracts: slices of edits, marked. Contracts on whole structs. Contracts that the laws on sessions and edits share. Contracts on whole structs that own their memory. -/
import Derived.Test.YtgmgjhdckepmmaaGreatQBiExactApplyEdits
import Derived.Test.YtgmgjhdckepmmaaGreatQAkExactApplyEdits
import Derived.Test.YtgmgjhdckepmmaaGreatQAhExactApplyEdits
import Derived.Test.YtgmgjhdckepmmaaGreatQBjExactApplyEdits
import Derived.Test.YtgmgjhdckepmmaaGreatQAgExactApplyEdits
import Derived.Test.YtgmgjhdckepmmaaGreatQAiExactApplyEdits
set_option linter.unusedVariables false
set_option linter.unusedSimpArgs false
section
namespace Go.Proofs.YtgmgjhdckepmmaaGreat
open Go.RowKit Go.ChangeShapes Go.WideShapes Go.Deep
theorem len9 {α : Type} {l : List α} (h : l.length = 9) : ∃ a b c d e f g i j, l = [a, b, c, d, e, f, g, i, j] := by match l, h with | [a, b, c, d, e, f, g, i, j], _ => exact ⟨a, b, c, d, e, f, g, i, j, rfl⟩
set_option maxHeartbeats 1000000 in
set_option maxRecDepth 20000 in
theorem c_szEditS (v : Value) (xs : List GEdit) (n : Int) (w : World) (h0 : 0 ≤ n) (h1 : n ≤ 1048576) (hr : T.rd w (T.sl 41 9 (xs.map GEdit.t)) [v]) :
    Calls Tryz.prog 26 #[v, .int .i64 n] w fun e w' => ∃ m : Int, e = .returned (.int .i64 m) ∧ -1 ≤ m ∧ m ≤ n ∧ (0 ≤ m → xs.length ≤ 1048576) ∧ Below w.heap.size w w' := by
  obtain ⟨A, cap, rfl, hl, hc, hx⟩ := T.rd_open hr
  rw [List.length_map] at hl ⊢
  clear hr hx
  by_cases h4 : n < xs.length
  · go_enter Tryz.func26, Tryz.ntmps26
    go_wp2
    go_ret
    exact ⟨-1, rfl, by omega, by omega, fun h => by omega, Below.refl _ _⟩
  · go_enter Tryz.func26, Tryz.ntmps26
    go_wp2
    go_ret
    exact ⟨_, rfl, by omega, by omega, fun h => by omega, Below.refl _ _⟩
theorem info_EditS : (Tryz.prog.info? 41).map (fun i => (i.zero, i.size, i.bytes)) = some (some (.agg #[.int .i64 0, .int .i64 0, .int .i64 0, .int .i64 0, .int .i64 0, .int .i64 0, .int .i64 0, .int .i64 0, .int .i64 0]), 9, 72) := by kernel_rfl
theorem wide_EditS (xs : List GEdit) : ∀ y ∈ xs.map GEdit.t, T.wide y = 9 := by
  intro y hy
  obtain ⟨x, _, rfl⟩ := List.mem_map.1 hy
  exact GEdit.wide_t x
set_option maxHeartbeats 1000000 in
set_option maxRecDepth 20000 in
theorem c_toEditS (v : Value) (xs : List GEdit) (w : World) (hs : xs.length ≤ 1048576) (hr : T.rd w (T.sl 41 9 (xs.map GEdit.t)) [v]) :
    Calls Tryz.prog 28 #[v] w fun e w' => ∃ u F, e = .returned u ∧ Nv w w' (T.sl 41 9 (xs.map GEdit.t)) F u := by
  obtain ⟨A, cap, rfl, hl, hc, hx⟩ := T.rd_open hr
  rw [List.length_map] at hl ⊢
  have HX := hide hx; clear hx hr
  have hn : xs.length ≤ 1048576 := hs
  clear hs
  obtain ⟨i0, hi, hz0, hz1, hz2⟩ := info_parts info_EditS
  go_enter Tryz.func28, Tryz.ntmps28
  go_wp2_with (at_make; refine wpList_make_full _ rfl _ _ _ rfl w.heap.size 41 i0 _ 9 Tryz.underlying33 hi hz0 hz1 .i64 .i64 _ _ xs.length rfl rfl rfl rfl (by rw [hz2]; omega) (by unfold maxLen; omega) (Nat.le_refl _) ?_; intro w1 hown1 hg1)
  have HF := hide (Fil.born hown1 hg1); clear hown1 hg1
  go_loopw [4] (fun iv wr => ∃ (k : Nat) (G : List Nat) (c1 c2 : List Value), k ≤ xs.length ∧ iv = .int .i64 (k : Int) ∧ Fil w wr 41 9 xs.length ((xs.take k).map GEdit.t) G c1 c2) (fun iv _ => xs.length - (intOf iv).toNat)
  case atStart => exact ⟨0, [], [], _, Nat.zero_le _, rfl, HF.out⟩
  case round =>
    obtain ⟨k, G, c1, c2, hk, rfl, hf⟩ := hrel
    have hwk := wide_EditS (xs.take k)
    have hc1 := hf.len hwk
    have hre := hf.rest hwk
    rw [List.length_map, List.length_take, Nat.min_eq_left hk] at hc1 hre
    have HB := hide hf.below
    by_cases hlt : k < xs.length
    · obtain ⟨zs, c2, rfl, hz⟩ := cut_len (show 9 ≤ c2.length by omega)
      obtain ⟨z0, z1, z2, z3, z4, z5, z6, z7, z8, rfl⟩ := len9 hz
      have HF := hide hf; clear hf hz
      have hgk := List.getElem?_eq_getElem hlt
      obtain ⟨b, off, cs, rfl, hbw, hcs, hcell⟩ := HX.out k (GEdit.t xs[k]) (by rw [List.getElem?_map, hgk]; rfl)
      generalize xs[k] = x at *
      have HGK := hide hgk; clear hgk
      obtain rfl := GEdit.rd_open (show T.rds _ _ _ by simpa only [GEdit.t, T.rd] using hcs)
      have d0 := (HB.out.cell hbw).trans (hcell 0 (.int .i64 x.fKind) rfl)
      have d1 := (HB.out.cell hbw).trans (hcell 1 (.int .i64 x.fTrack) rfl)
      have d2 := (HB.out.cell hbw).trans (hcell 2 (.int .i64 x.fClip) rfl)
      have d3 := (HB.out.cell hbw).trans (hcell 3 (.int .i64 x.fValue) rfl)
      have d4 := (HB.out.cell hbw).trans (hcell 4 (.int .i64 x.fNew.fSource) rfl)
      have d5 := (HB.out.cell hbw).trans (hcell 5 (.int .i64 x.fNew.fFrom) rfl)
      have d6 := (HB.out.cell hbw).trans (hcell 6 (.int .i64 x.fNew.fLength) rfl)
      have d7 := (HB.out.cell hbw).trans (hcell 7 (.int .i64 x.fNew.fAt) rfl)
      have d8 := (HB.out.cell hbw).trans (hcell 8 (.int .i64 x.fNew.fGain) rfl)
      rw [show off + (k * 9 + 0) = off + k * 9 by omega] at d0
      rw [show off + (k * 9 + 1) = off + k * 9 + 1 by omega] at d1
      rw [show off + (k * 9 + 2) = off + k * 9 + 2 by omega] at d2
      rw [show off + (k * 9 + 3) = off + k * 9 + 3 by omega] at d3
      rw [show off + (k * 9 + 4) = off + k * 9 + 4 by omega] at d4
      rw [show off + (k * 9 + 5) = off + k * 9 + 5 by omega] at d5
      rw [show off + (k * 9 + 6) = off + k * 9 + 6 by omega] at d6
      rw [show off + (k * 9 + 7) = off + k * 9 + 7 by omega] at d7
      rw [show off + (k * 9 + 8) = off + k * 9 + 8 by omega] at d8
      clear hcs hcell
      go_wp2_with (go_at_call 18; refine (c_toEdit x _).mono ?_; rintro e w3 ⟨rfl, hb3⟩; have HF3 := hide (HF.out.call hb3); have q0 := own_cell HF3.out.own (j := 0) rfl; rw [hc1, show k * 9 + 0 = k * 9 by omega] at q0; have f0 := own_free HF3.out.own (k * 9); have q1 := own_cell HF3.out.own (j := 1) rfl; rw [hc1, show k * 9 + 1 = k * 9 + 1 by omega] at q1; have f1 := own_free HF3.out.own (k * 9 + 1); have q2 := own_cell HF3.out.own (j := 2) rfl; rw [hc1, show k * 9 + 2 = k * 9 + 2 by omega] at q2; have f2 := own_free HF3.out.own (k * 9 + 2); have q3 := own_cell HF3.out.own (j := 3) rfl; rw [hc1, show k * 9 + 3 = k * 9 + 3 by omega] at q3; have f3 := own_free HF3.out.own (k * 9 + 3); have q4 := own_cell HF3.out.own (j := 4) rfl; rw [hc1, show k * 9 + 4 = k * 9 + 4 by omega] at q4; have f4 := own_free HF3.out.own (k * 9 + 4); have q5 := own_cell HF3.out.own (j := 5) rfl; rw [hc1, show k * 9 + 5 = k * 9 + 5 by omega] at q5; have f5 := own_free HF3.out.own (k * 9 + 5); have q6 := own_cell HF3.out.own (j := 6) rfl; rw [hc1, show k * 9 + 6 = k * 9 + 6 by omega] at q6; have f6 := own_free HF3.out.own (k * 9 + 6); have q7 := own_cell HF3.out.own (j := 7) rfl; rw [hc1, show k * 9 + 7 = k * 9 + 7 by omega] at q7; have f7 := own_free HF3.out.own (k * 9 + 7); have q8 := own_cell HF3.out.own (j := 8) rfl; rw [hc1, show k * 9 + 8 = k * 9 + 8 by omega] at q8; have f8 := own_free HF3.out.own (k * 9 + 8); clear hb3)
      go_roundw
      case rel =>
        have h := HF3.out.step (us := [.int .i64 x.fKind, .int .i64 x.fTrack, .int .i64 x.fClip, .int .i64 x.fValue, .int .i64 x.fNew.fSource, .int .i64 x.fNew.fFrom, .int .i64 x.fNew.fLength, .int .i64 x.fNew.fAt, .int .i64 x.fNew.fGain]) (F := []) rfl HF.out.up (show T.ow w3 x.t _ _ by simp only [GEdit.t, T.ow]; exact GEdit.ow_mk) (by simp) (by simp) HF.out.lt
        rw [hc1] at h
        rw [show ((xs.take k).map GEdit.t ++ [GEdit.t x]) = (xs.take (k + 1)).map GEdit.t by rw [take_snoc_of HGK.out]; simp] at h
        simp only [setsW, Nat.add_assoc, Nat.reduceAdd, Nat.mul_one] at h
        exact ⟨k + 1, _, _, _, by omega, by go_num, h⟩
      case measure => simp [intOf]; omega
    · obtain rfl : k = xs.length := by omega
      obtain rfl : c2 = [] := List.eq_nil_of_length_eq_zero (by omega)
      have HF := hide hf; clear hf
      go_wp2
      go_ret
      have h := HF.out.done hwk (by simp)
      rw [List.take_length] at h
      exact ⟨_, _, rfl, h⟩
set_option maxHeartbeats 1000000 in
set_option maxRecDepth 20000 in
theorem c_eqEditS (v u : Value) (xs : List GEdit) (w : World) (hr : T.rd w (T.sl 41 9 (xs.map GEdit.t)) [v]) (ht : T.rd w (T.sl 41 9 (xs.map GEdit.t)) [u]) :
    Calls Tryz.prog 29 #[v, u] w fun e w' => e = .returned (.bool true) ∧ Below w.heap.size w w' := by
  obtain ⟨A1, cap1, rfl, hl1, hc1, hx1⟩ := T.rd_open hr
  obtain ⟨A2, cap2, rfl, hl2, hc2, hx2⟩ := T.rd_open ht
  rw [List.length_map] at hl1 hl2 ⊢
  have HX1 := hide hx1; have HX2 := hide hx2; clear hx1 hx2 hr ht
  go_enter Tryz.func29, Tryz.ntmps29
  go_wp2
  go_loopw [5] (fun i wr => ∃ k : Nat, k ≤ xs.length ∧ i = .int .i64 k ∧ Below w.heap.size w wr) (fun i _ => xs.length - (intOf i).toNat)
  case atStart => exact ⟨0, Nat.zero_le _, rfl, Below.refl _ _⟩
  case round =>
    obtain ⟨k, hk, rfl, hb⟩ := hrel
    have HB := hide hb; clear hb
    by_cases hlt : k < xs.length
    · have hgk := List.getElem?_eq_getElem hlt
      obtain ⟨b1, o1, cs1, rfl, hbw1, hcs1, hcell1⟩ := HX1.out k (GEdit.t xs[k]) (by rw [List.getElem?_map, hgk]; rfl)
      obtain ⟨b2, o2, cs2, rfl, hbw2, hcs2, hcell2⟩ := HX2.out k (GEdit.t xs[k]) (by rw [List.getElem?_map, hgk]; rfl)
      generalize xs[k] = x at *
      clear hgk
      obtain rfl := GEdit.rd_open (show T.rds _ _ _ by simpa only [GEdit.t, T.rd] using hcs1)
      have d10 := (HB.out.cell hbw1).trans (hcell1 0 (.int .i64 x.fKind) rfl)
      have d11 := (HB.out.cell hbw1).trans (hcell1 1 (.int .i64 x.fTrack) rfl)
      have d12 := (HB.out.cell hbw1).trans (hcell1 2 (.int .i64 x.fClip) rfl)
      have d13 := (HB.out.cell hbw1).trans (hcell1 3 (.int .i64 x.fValue) rfl)
      have d14 := (HB.out.cell hbw1).trans (hcell1 4 (.int .i64 x.fNew.fSource) rfl)
      have d15 := (HB.out.cell hbw1).trans (hcell1 5 (.int .i64 x.fNew.fFrom) rfl)
      have d16 := (HB.out.cell hbw1).trans (hcell1 6 (.int .i64 x.fNew.fLength) rfl)
      have d17 := (HB.out.cell hbw1).trans (hcell1 7 (.int .i64 x.fNew.fAt) rfl)
      have d18 := (HB.out.cell hbw1).trans (hcell1 8 (.int .i64 x.fNew.fGain) rfl)
      rw [show o1 + (k * 9 + 0) = o1 + k * 9 by omega] at d10
      rw [show o1 + (k * 9 + 1) = o1 + k * 9 + 1 by omega] at d11
      rw [show o1 + (k * 9 + 2) = o1 + k * 9 + 2 by omega] at d12
      rw [show o1 + (k * 9 + 3) = o1 + k * 9 + 3 by omega] at d13
      rw [show o1 + (k * 9 + 4) = o1 + k * 9 + 4 by omega] at d14
      rw [show o1 + (k * 9 + 5) = o1 + k * 9 + 5 by omega] at d15
      rw [show o1 + (k * 9 + 6) = o1 + k * 9 + 6 by omega] at d16
      rw [show o1 + (k * 9 + 7) = o1 + k * 9 + 7 by omega] at d17
      rw [show o1 + (k * 9 + 8) = o1 + k * 9 + 8 by omega] at d18
      clear hcs1 hcell1
      have hq1 : b1 < wr.heap.size := Nat.lt_of_lt_of_le hbw1 HB.out.size
      obtain rfl := GEdit.rd_open (show T.rds _ _ _ by simpa only [GEdit.t, T.rd] using hcs2)
      have d20 := (HB.out.cell hbw2).trans (hcell2 0 (.int .i64 x.fKind) rfl)
      have d21 := (HB.out.cell hbw2).trans (hcell2 1 (.int .i64 x.fTrack) rfl)
      have d22 := (HB.out.cell hbw2).trans (hcell2 2 (.int .i64 x.fClip) rfl)
      have d23 := (HB.out.cell hbw2).trans (hcell2 3 (.int .i64 x.fValue) rfl)
      have d24 := (HB.out.cell hbw2).trans (hcell2 4 (.int .i64 x.fNew.fSource) rfl)
      have d25 := (HB.out.cell hbw2).trans (hcell2 5 (.int .i64 x.fNew.fFrom) rfl)
      have d26 := (HB.out.cell hbw2).trans (hcell2 6 (.int .i64 x.fNew.fLength) rfl)
      have d27 := (HB.out.cell hbw2).trans (hcell2 7 (.int .i64 x.fNew.fAt) rfl)
      have d28 := (HB.out.cell hbw2).trans (hcell2 8 (.int .i64 x.fNew.fGain) rfl)
      rw [show o2 + (k * 9 + 0) = o2 + k * 9 by omega] at d20
      rw [show o2 + (k * 9 + 1) = o2 + k * 9 + 1 by omega] at d21
      rw [show o2 + (k * 9 + 2) = o2 + k * 9 + 2 by omega] at d22
      rw [show o2 + (k * 9 + 3) = o2 + k * 9 + 3 by omega] at d23
      rw [show o2 + (k * 9 + 4) = o2 + k * 9 + 4 by omega] at d24
      rw [show o2 + (k * 9 + 5) = o2 + k * 9 + 5 by omega] at d25
      rw [show o2 + (k * 9 + 6) = o2 + k * 9 + 6 by omega] at d26
      rw [show o2 + (k * 9 + 7) = o2 + k * 9 + 7 by omega] at d27
      rw [show o2 + (k * 9 + 8) = o2 + k * 9 + 8 by omega] at d28
      clear hcs2 hcell2
      have hq2 : b2 < wr.heap.size := Nat.lt_of_lt_of_le hbw2 HB.out.size
      go_wp2
      go_region_held3 (fun w' => w'.cell? ⟨b1, o1 + k * 9, none⟩ = some (.int .i64 x.fKind) ∧ w'.cell? ⟨b1, o1 + k * 9 + 1, none⟩ = some (.int .i64 x.fTrack) ∧ w'.cell? ⟨b1, o1 + k * 9 + 2, none⟩ = some (.int .i64 x.fClip) ∧ w'.cell? ⟨b1, o1 + k * 9 + 3, none⟩ = some (.int .i64 x.fValue) ∧ w'.cell? ⟨b1, o1 + k * 9 + 4, none⟩ = some (.int .i64 x.fNew.fSource) ∧ w'.cell? ⟨b1, o1 + k * 9 + 5, none⟩ = some (.int .i64 x.fNew.fFrom) ∧ w'.cell? ⟨b1, o1 + k * 9 + 6, none⟩ = some (.int .i64 x.fNew.fLength) ∧ w'.cell? ⟨b1, o1 + k * 9 + 7, none⟩ = some (.int .i64 x.fNew.fAt) ∧ w'.cell? ⟨b1, o1 + k * 9 + 8, none⟩ = some (.int .i64 x.fNew.fGain) ∧ w'.cell? ⟨b2, o2 + k * 9, none⟩ = some (.int .i64 x.fKind) ∧ w'.cell? ⟨b2, o2 + k * 9 + 1, none⟩ = some (.int .i64 x.fTrack) ∧ w'.cell? ⟨b2, o2 + k * 9 + 2, none⟩ = some (.int .i64 x.fClip) ∧ w'.cell? ⟨b2, o2 + k * 9 + 3, none⟩ = some (.int .i64 x.fValue) ∧ w'.cell? ⟨b2, o2 + k * 9 + 4, none⟩ = some (.int .i64 x.fNew.fSource) ∧ w'.cell? ⟨b2, o2 + k * 9 + 5, none⟩ = some (.int .i64 x.fNew.fFrom) ∧ w'.cell? ⟨b2, o2 + k * 9 + 6, none⟩ = some (.int .i64 x.fNew.fLength) ∧ w'.cell? ⟨b2, o2 + k * 9 + 7, none⟩ = some (.int .i64 x.fNew.fAt) ∧ w'.cell? ⟨b2, o2 + k * 9 + 8, none⟩ = some (.int .i64 x.fNew.fGain)) (first | go_keep | (refine ⟨(hb3.cell ?_).trans ?_, (hb3.cell ?_).trans ?_, (hb3.cell ?_).trans ?_, (hb3.cell ?_).trans ?_, (hb3.cell ?_).trans ?_, (hb3.cell ?_).trans ?_, (hb3.cell ?_).trans ?_, (hb3.cell ?_).trans ?_, (hb3.cell ?_).trans ?_, (hb3.cell ?_).trans ?_, (hb3.cell ?_).trans ?_, (hb3.cell ?_).trans ?_, (hb3.cell ?_).trans ?_, (hb3.cell ?_).trans ?_, (hb3.cell ?_).trans ?_, (hb3.cell ?_).trans ?_, (hb3.cell ?_).trans ?_, (hb3.cell ?_).trans ?_⟩ <;> first | assumption | (simp [*]; done) | (simp; omega))) (first | (go_at_call 19; refine (c_eqEdit x _).mono ?_; rintro e w3 ⟨rfl, hb3⟩))
      have hb4 : Below w.heap.size w w3 := bthen HB.out HB.out.size (by first | exact hb3 | exact undrew hb3 | exact undrewN hb3)
      have HB4 := hide hb4; clear hb4 hb3
      go_wp2
      go_roundw
      case rel => exact ⟨k + 1, by omega, by go_num, (by first | exact HB4.out | exact undrew HB4.out | exact Below.drew HB4.out | exact Below.drew (undrew HB4.out) | exact undrewN HB4.out | exact below_drewN HB4.out _)⟩
      case measure => simp [intOf]; omega
    · go_wp2
      go_ret
      exact ⟨rfl, HB.out⟩
theorem op_LEdit {H : Type} {enc : TypeId × Value → H} {W : World} {base : Nat} {spare : Nat → Bool} {held : Bool} {fuel : Nat} {cs : List Value} {x : DataW H × List MemPlace} (h : DataW.trod enc Tryz.prog W base spare held fuel 65 cs = some x) : ∃ (v : Value) (xs : List GEdit), cs = [v] ∧ T.rd W (T.sl 41 9 (xs.map GEdit.t)) [v] ∧ ∀ y ∈ xs, GEdit.good y :=
  rdT_open 41 GEdit.t GEdit.good GEdit.wide_t (by omega) ⟨0, 0, 0, 0, ⟨0, 0, 0, 0, 0⟩⟩ Tryz.underlying65 (by kernel_rfl) (fun n cs' y hy => by
    obtain ⟨z, hz, hg⟩ := op_Edit hy
    exact ⟨z, by simp only [GEdit.t, T.rd]; exact hz, hg⟩) h
end Go.Proofs.YtgmgjhdckepmmaaGreat
end
section
namespace Go.Proofs.YtgmgjhdckepmmaaGreat
open Go.RowKit
set_option maxHeartbeats 1000000 in
set_option maxRecDepth 20000 in
theorem c_markEditS (v : Value) (xs : List GEdit) (F : List Nat) (m : Nat) (w : World) (h0 : 0 < m) (hm : m + cntL GEdit.cnt xs ≤ 4611686018427387904) (ho : T.ow w (T.sl 41 9 (xs.map GEdit.t)) F [v]) (hn : F.Nodup) :
    Calls Tryz.prog 30 #[v, .int .i64 (m : Int)] w fun e w' => e = .returned (.int .i64 ((m + cntL GEdit.cnt xs : Nat) : Int)) ∧ T.ow w' (T.sl 41 9 ((mkL GEdit.mkd GEdit.cnt xs m).map GEdit.t)) F [v] ∧ Trn F w w' := by
  rcases Nat.eq_zero_or_pos xs.length with hz | hz
  · obtain rfl : xs = [] := List.eq_nil_of_length_eq_zero hz
    obtain ⟨A, cap, rfl⟩ := T.mid_empty ho
    have HO := hide ho; clear ho hz hm
    go_enter Tryz.func30, Tryz.ntmps30
    go_wp2
    refine wp_loop_rounds 1 ?_
    rw [rounds_succ]
    go_wp2
    go_ret
    exact ⟨by simp [cntL], HO.out, Trn.refl _ _⟩
  · obtain ⟨g, cap, rfl, hl, hc⟩ := T.ow_form ho (by rw [List.length_map]; exact hz)
    rw [List.length_map] at hl ⊢
    have HO := hide ho; clear ho
    go_enter Tryz.func30, Tryz.ntmps30
    go_wp2
    go_loopw [1, 5] (fun t iv wr => ∃ k j : Nat, k ≤ xs.length ∧ iv = .int .i64 (k : Int) ∧ t = .int .i64 (j : Int) ∧ j = m + cntL GEdit.cnt (xs.take k) ∧ T.ow wr (.sl 41 9 ((mkL GEdit.mkd GEdit.cnt (xs.take k) m ++ xs.drop k).map GEdit.t)) F [.slice (some ⟨g, 0, none⟩) xs.length cap] ∧ Trn F w wr) (fun _ iv _ => xs.length - (intOf iv).toNat)
    case atStart => exact ⟨0, m, Nat.zero_le _, rfl, rfl, by simp [cntL], by have := HO.out; rw [List.length_map] at this; simpa [mkL] using this, Trn.refl _ _⟩
    case round =>
      obtain ⟨k, j, hk, rfl, rfl, hj, ho, ht⟩ := hrel
      have HT := hide ht; clear ht
      by_cases hlt : k < xs.length
      · have hgk := List.getElem?_eq_getElem hlt
        have hcl := cntL_take (c := GEdit.cnt) hgk
        have hle := cntL_le (c := GEdit.cnt) xs (k + 1)
        have hdr : xs.drop k = xs[k] :: xs.drop (k + 1) := List.drop_eq_getElem_cons hlt
        rw [hdr, List.map_append, List.map_cons] at ho
        generalize xs[k] = x at *
        have HGK := hide hgk; clear hgk hdr
        obtain ⟨n', g', cap', G1, Fx, G2, c1, cx, c2, hv, rfl, hmid⟩ := T.mid ho hn
        obtain ⟨rfl, rfl, rfl⟩ : g = g' ∧ xs.length = n' ∧ cap = cap' := by simpa using hv
        have hc1 := hmid.c1
        rw [List.length_map, length_mkL, List.length_take, Nat.min_eq_left hk] at hc1
        have HJ := hide hj
        have hxb : j + GEdit.cnt x ≤ 4611686018427387904 := by omega
        have hj0 : 0 < j := by omega
        clear ho hv hcl hle hj
        obtain ⟨hFx, hcx⟩ : Fx = [] ∧ cx = [.int .i64 x.fKind, .int .i64 x.fTrack, .int .i64 x.fClip, .int .i64 x.fValue, .int .i64 x.fNew.fSource, .int .i64 x.fNew.fFrom, .int .i64 x.fNew.fLength, .int .i64 x.fNew.fAt, .int .i64 x.fNew.fGain] := by
          have := hmid.el
          simp only [GEdit.t, T.ow, GEdit.fs, T.ows_num, T.ows_str, T.ows_nil] at this
          obtain ⟨_, rfl, _, rfl, _, rfl, _, rfl, _, rfl, _, rfl, _, rfl, _, rfl, _, rfl, rfl, rfl⟩ := this
          exact ⟨rfl, rfl⟩
        subst hcx hFx
        have hfx := hmid.fx
        have hgx := hmid.gx
        have HMID := hide hmid; have HOW0 := hide hmid.own; have HTX0 := hide (Trn.refl (g :: ([])) wr)
        clear hmid
        have q0_0 : wr.cell? ⟨g, k * 9, none⟩ = some (.int .i64 x.fKind) := own_at 0 HOW0.out hc1 rfl
        have f0_0 := own_free HOW0.out (k * 9)
        have q0_1 : wr.cell? ⟨g, k * 9 + 1, none⟩ = some (.int .i64 x.fTrack) := own_at 1 HOW0.out hc1 rfl
        have f0_1 := own_free HOW0.out (k * 9 + 1)
        have q0_2 : wr.cell? ⟨g, k * 9 + 2, none⟩ = some (.int .i64 x.fClip) := own_at 2 HOW0.out hc1 rfl
        have f0_2 := own_free HOW0.out (k * 9 + 2)
        have q0_3 : wr.cell? ⟨g, k * 9 + 3, none⟩ = some (.int .i64 x.fValue) := own_at 3 HOW0.out hc1 rfl
        have f0_3 := own_free HOW0.out (k * 9 + 3)
        have q0_4 : wr.cell? ⟨g, k * 9 + 4, none⟩ = some (.int .i64 x.fNew.fSource) := own_at 4 HOW0.out hc1 rfl
        have f0_4 := own_free HOW0.out (k * 9 + 4)
        have q0_5 : wr.cell? ⟨g, k * 9 + 5, none⟩ = some (.int .i64 x.fNew.fFrom) := own_at 5 HOW0.out hc1 rfl
        have f0_5 := own_free HOW0.out (k * 9 + 5)
        have q0_6 : wr.cell? ⟨g, k * 9 + 6, none⟩ = some (.int .i64 x.fNew.fLength) := own_at 6 HOW0.out hc1 rfl
        have f0_6 := own_free HOW0.out (k * 9 + 6)
        have q0_7 : wr.cell? ⟨g, k * 9 + 7, none⟩ = some (.int .i64 x.fNew.fAt) := own_at 7 HOW0.out hc1 rfl
        have f0_7 := own_free HOW0.out (k * 9 + 7)
        have q0_8 : wr.cell? ⟨g, k * 9 + 8, none⟩ = some (.int .i64 x.fNew.fGain) := own_at 8 HOW0.out hc1 rfl
        have f0_8 := own_free HOW0.out (k * 9 + 8)
        go_wp2
        go_roundw
        case rel =>
          have hrec : (mkL GEdit.mkd GEdit.cnt (xs.take (k + 1)) m ++ xs.drop (k + 1)).map GEdit.t = (mkL GEdit.mkd GEdit.cnt (xs.take k) m).map GEdit.t ++ (GEdit.mkd x j).t :: (xs.drop (k + 1)).map GEdit.t := by rw [mkL_take HGK.out, ← HJ.out]; simp
          refine ⟨k + 1, j + GEdit.cnt x, by omega, by go_num, ?_, by rw [cntL_take HGK.out, HJ.out]; omega, ?_, ?_⟩
          · unfold GEdit.cnt; go_num
          · rw [hrec]; exact HMID.out.close (cx' := [.int .i64 ((j : Nat) : Int), .int .i64 ((j + 1 : Nat) : Int), .int .i64 ((j + 2 : Nat) : Int), .int .i64 ((j + 3 : Nat) : Int), .int .i64 ((j + 4 : Nat) : Int), .int .i64 ((j + 5 : Nat) : Int), .int .i64 ((j + 6 : Nat) : Int), .int .i64 ((j + 7 : Nat) : Int), .int .i64 ((j + 8 : Nat) : Int)]) ((Trn.trans (Trn.trans (Trn.trans (Trn.trans (Trn.trans (Trn.trans (Trn.trans (Trn.trans (Trn.trans HTX0.out (Trn.set_ (by simp) _ _)) (Trn.set_ (by simp) _ _)) (Trn.set_ (by simp) _ _)) (Trn.set_ (by simp) _ _)) (Trn.set_ (by simp) _ _)) (Trn.set_ (by simp) _ _)) (Trn.set_ (by simp) _ _)) (Trn.set_ (by simp) _ _)) (Trn.set_ (by simp) _ _))) ((own_st 8 (own_st 7 (own_st 6 (own_st 5 (own_st 4 (own_st 3 (own_st 2 (own_st 1 (own_st 0 HOW0.out hc1 (by simp)) hc1 (by simp)) hc1 (by simp)) hc1 (by simp)) hc1 (by simp)) hc1 (by simp)) hc1 (by simp)) hc1 (by simp)) hc1 (by simp))) (by simp only [GEdit.t, T.ow]; exact GEdit.ow_mk (x := GEdit.mkd x j)) (GEdit.wide_t _)
          · exact HT.out.trans (Trn.mono (F := g :: ([])) ((Trn.trans (Trn.trans (Trn.trans (Trn.trans (Trn.trans (Trn.trans (Trn.trans (Trn.trans (Trn.trans HTX0.out (Trn.set_ (by simp) _ _)) (Trn.set_ (by simp) _ _)) (Trn.set_ (by simp) _ _)) (Trn.set_ (by simp) _ _)) (Trn.set_ (by simp) _ _)) (Trn.set_ (by simp) _ _)) (Trn.set_ (by simp) _ _)) (Trn.set_ (by simp) _ _)) (Trn.set_ (by simp) _ _))) (fun b hb => by simp at hb; simp [hb]))
        case measure => simp [intOf]; omega
      · obtain rfl : k = xs.length := by omega
        go_wp2
        go_ret
        rw [List.take_length] at ho hj
        rw [List.drop_length, List.append_nil] at ho
        exact ⟨by rw [hj]; rfl, ho, HT.out⟩
end Go.Proofs.YtgmgjhdckepmmaaGreat
end
section
namespace Go.Proofs.YtgmgjhdckepmmaaGreat
open Go.RowKit
theorem T.rds_below {w w' : World} {x : List T} {cs : List Value} (h : T.rds w x cs) (hb : Below w.heap.size w w') : T.rds w' x cs := T.rds_keep hb.size hb.block x cs h
theorem b_toSession (x : GSession) (cs : List Value) (w : World) (hs : x.small) (h : T.rds w x.fs cs) : Calls Tryz.prog 17 #[.agg cs.toArray] w fun e w' => ∃ ds, e = .returned (.agg ds.toArray) ∧ T.rds w' x.fs ds ∧ Below w.heap.size w w' := by
  obtain ⟨v1, v2, v3, v4, v5, rfl, h1, h2, h3, h4, h5⟩ := GSession.rd_open h
  refine (c_toSession x _ _ _ _ _ w hs h1 h2 h3 h4 h5).mono ?_
  rintro e w' ⟨u1, F1, u2, F2, u3, F3, u4, F4, u5, F5, rfl, o1, o2, o3, o4, o5, sg, hb⟩
  exact ⟨_, rfl, GSession.rd_mk (T.ow_rd _ _ _ o1) (T.ow_rd _ _ _ o2) (T.ow_rd _ _ _ o3) (T.ow_rd _ _ _ o4) (T.ow_rd _ _ _ o5), hb⟩
theorem b_eqSession (x : GSession) (cs ds : List Value) (w : World) (h : T.rds w x.fs cs) (g : T.rds w x.fs ds) : Calls Tryz.prog 20 #[.agg cs.toArray, .agg ds.toArray] w fun e w' => e = .returned (.bool true) ∧ Below w.heap.size w w' := by
  obtain ⟨v1, v2, v3, v4, v5, rfl, h1, h2, h3, h4, h5⟩ := GSession.rd_open h
  obtain ⟨u1, u2, u3, u4, u5, rfl, k1, k2, k3, k4, k5⟩ := GSession.rd_open g
  exact c_eqSession x _ _ _ _ _ _ _ _ _ _ w h1 h2 h3 h4 h5 k1 k2 k3 k4 k5
end Go.Proofs.YtgmgjhdckepmmaaGreat
end
section
namespace Go.Proofs.YtgmgjhdckepmmaaGreat
open Go.RowKit
theorem b_szSession (x : GSession) (cs : List Value) (n : Int) (w : World) (hn : 0 ≤ n) (hm : n ≤ 1048576) (hg : x.good) (h : T.rds w x.fs cs) : Calls Tryz.prog 15 #[.agg cs.toArray, .int .i64 n] w fun e w' => ∃ m : Int, e = .returned (.int .i64 m) ∧ -1 ≤ m ∧ m ≤ n ∧ (0 ≤ m → x.small) ∧ Below w.heap.size w w' := by
  obtain ⟨v1, v2, v3, v4, v5, rfl, h1, h2, h3, h4, h5⟩ := GSession.rd_open h
  exact c_szSession x _ _ _ _ _ n w hn hm hg h1 h2 h3 h4 h5
end Go.Proofs.YtgmgjhdckepmmaaGreat
end
section
namespace Go.Proofs.YtgmgjhdckepmmaaGreat
open Go.RowKit
theorem cntL_bd {α : Type} {c : α → Nat} {B : Nat} : ∀ {xs : List α}, (∀ x ∈ xs, c x ≤ B) → cntL c xs ≤ xs.length * B
  | [], _ => by simp [cntL]
  | x :: r, h => by
    have h1 := h x (by simp)
    have h2 := cntL_bd (xs := r) (fun y hy => h y (by simp [hy]))
    simp only [cntL, List.length_cons, Nat.add_mul]
    omega
theorem cntL_le2 {α : Type} {c : α → Nat} {B N : Nat} {xs : List α} (h : ∀ x ∈ xs, c x ≤ B) (hl : xs.length ≤ N) : cntL c xs ≤ N * B :=
  Nat.le_trans (cntL_bd h) (Nat.mul_le_mul_right B hl)
theorem GTrack.cnt_le {x : GTrack} (h : x.small) : x.cnt ≤ 5242880 := by
  have b0 := cntL_le2 (c := GClip.cnt) (xs := x.fClips) (B := 5) (N := 1048576) (fun y _ => Nat.le_refl _) h
  unfold GTrack.cnt
  omega
theorem GNode.cnt_le {x : GNode} (h : x.small) : x.cnt ≤ 1048579 := by
  have b3 : x.fFrom.length ≤ 1048576 := h
  unfold GNode.cnt
  omega
theorem GPatch.cnt_le {x : GPatch} (h : x.small) : x.cnt ≤ 2199027449857 := by
  have b1 := cntL_le2 (c := List.length) (B := 1048576) (N := 1048576) h.1.2 h.1.1
  have b2 := cntL_le2 (c := GNode.cnt) (B := 1048579) (N := 1048576) (fun y hy => GNode.cnt_le (h.2.1.2 y hy)) h.2.1.1
  have b3 : x.fOutputs.length ≤ 1048576 := h.2.2
  unfold GPatch.cnt
  omega
theorem GStrip.cnt_le {x : GStrip} (h : x.small) : x.cnt ≤ 2097154 := by
  have b2 := cntL_le2 (c := GSend.cnt) (xs := x.fSends) (B := 2) (N := 1048576) (fun y _ => Nat.le_refl _) h.2
  unfold GStrip.cnt
  omega
theorem GSession.cntv_le {x : GSession} (h : x.small) : x.cntv ≤ 4611686018000000000 := by
  have b1 := cntL_le2 (c := List.length) (B := 1048576) (N := 1048576) h.1.2 h.1.1
  have b2 := cntL_le2 (c := GTrack.cnt) (B := 5242880) (N := 1048576) (fun y hy => GTrack.cnt_le (h.2.1.2 y hy)) h.2.1.1
  have b3 : x.fFeeds.length ≤ 1048576 := h.2.2.1
  have b4 := cntL_le2 (c := GPatch.cnt) (B := 2199027449857) (N := 1048576) (fun y hy => GPatch.cnt_le (h.2.2.2.1.2 y hy)) h.2.2.2.1.1
  have b5 := cntL_le2 (c := GStrip.cnt) (B := 2097154) (N := 1048576) (fun y hy => GStrip.cnt_le (h.2.2.2.2.2 y hy)) h.2.2.2.2.1
  simp only [GSession.cntv, GMixer.cntv]
  omega
theorem bo_toSession (x : GSession) (cs : List Value) (w : World) (hs : x.small) (h : T.rds w x.fs cs) : Calls Tryz.prog 17 #[.agg cs.toArray] w fun e w' => ∃ ds F, e = .returned (.agg ds.toArray) ∧ Nw w w' x.fs F ds := by
  obtain ⟨v1, v2, v3, v4, v5, rfl, h1, h2, h3, h4, h5⟩ := GSession.rd_open h
  refine (c_toSession x _ _ _ _ _ w hs h1 h2 h3 h4 h5).mono ?_
  rintro e w' ⟨u1, F1, u2, F2, u3, F3, u4, F4, u5, F5, rfl, o1, o2, o3, o4, o5, sg, hb⟩
  have ha := sg.all
  simp only [List.flatten_cons, List.flatten_nil] at ha
  exact ⟨_, _, rfl, GSession.ow_mk o1 o2 o3 o4 o5, ha.1, fun b hb => (ha.2 b hb).1, hb⟩
theorem bo_markSession (x : GSession) (cs : List Value) (F : List Nat) (m : Nat) (w : World) (h0 : 0 < m) (hm : m + x.cntv ≤ 4611686018427387904) (h : T.ows w x.fs F cs) (hn : F.Nodup) : Calls Tryz.prog 24 #[.agg cs.toArray, .int .i64 (m : Int)] w fun e w' => e = .returned (.int .i64 ((m + x.cntv : Nat) : Int)) ∧ T.ows w' (x.mkv m).fs F cs ∧ Trn F w w' := by
  obtain ⟨v1, v2, v3, v4, v5, F1, F2, F3, F4, F5, rfl, rfl, h1, h2, h3, h4, h5⟩ := GSession.ow_open h
  refine (c_markSession x _ _ _ _ _ _ _ _ _ _ m w h0 hm h1 h2 h3 h4 h5 hn).mono ?_
  rintro e w' ⟨rfl, o1, o2, o3, o4, o5, ht⟩
  exact ⟨rfl, GSession.ow_mk (x := x.mkv m) o1 o2 o3 o4 o5, ht⟩
theorem bo_heldSession (x : GSession) (cs : List Value) (m : Nat) (w : World) (h0 : 0 < m) (hm : m + x.cntv ≤ 4611686018427387904) (h : T.rds w (x.mkv m).fs cs) : Calls Tryz.prog 25 #[.agg cs.toArray, .int .i64 (m : Int)] w fun e w' => e = .returned (.int .i64 ((m + x.cntv : Nat) : Int)) ∧ Below w.heap.size w w' := by
  obtain ⟨v1, v2, v3, v4, v5, rfl, h1, h2, h3, h4, h5⟩ := GSession.rd_open h
  exact c_heldSession x _ _ _ _ _ _ m w h0 hm h1 h2 h3 h4 h5
end Go.Proofs.YtgmgjhdckepmmaaGreat
end
