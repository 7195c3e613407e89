/- Contracts: which nested data are the same. -/
import Derived.Test.YtfifcnojkjjnkaaGreatNl
import Derived.Laws.StructEq
namespace Go.Proofs.YtfifcnojkjjnkaaGreat
open Go.RowKit
theorem eq_Frac (d : Nat) (x y : GFrac) (w : World) : (Op.equalIn (d + 2) 52 (.agg #[.int .i64 x.fNum, .int .i64 x.fDen]) (.agg #[.int .i64 y.fNum, .int .i64 y.fDen])).run Tryz.prog w = .ok (decide (x = y)) w := by
  have u2 := Tryz.underlying2
  have a2 := Tryz.isAgg2
  have z2 := Tryz.sizeOf2
  have hS : Tryz.prog.underlying 52 = some (.struct (Tryz.prog.fieldsOf 52)) := by kernel_rfl
  rw [show d + 2 = (d + 1) + 1 from rfl, run_equalIn_agg w (d + 1) 52 _ _ hS (by kernel_rfl)]
  simp only [Program.fieldsOf, Tryz.underlying52]
  go_simp
  obtain ⟨x0, x1⟩ := x
  obtain ⟨y0, y1⟩ := y
  simp only [GFrac.mk.injEq]
  by_cases h0 : x0 = y0 <;> by_cases h1 : x1 = y1 <;> simp [h0, h1]
theorem eqg_Frac : Tryz.prog.eqGuardType Tryz.prog.depth 52 = false := by kernel_rfl
theorem eq_Clip (d : Nat) (x y : GClip) (w : World) : (Op.equalIn (d + 2) 90 (.agg #[.int .i64 x.fSource, .int .i64 x.fFrom, .int .i64 x.fLength, .int .i64 x.fAt, .int .i64 x.fGain]) (.agg #[.int .i64 y.fSource, .int .i64 y.fFrom, .int .i64 y.fLength, .int .i64 y.fAt, .int .i64 y.fGain])).run Tryz.prog w = .ok (decide (x = y)) w := by
  have u2 := Tryz.underlying2
  have a2 := Tryz.isAgg2
  have z2 := Tryz.sizeOf2
  have hS : Tryz.prog.underlying 90 = some (.struct (Tryz.prog.fieldsOf 90)) := by kernel_rfl
  rw [show d + 2 = (d + 1) + 1 from rfl, run_equalIn_agg w (d + 1) 90 _ _ hS (by kernel_rfl)]
  simp only [Program.fieldsOf, Tryz.underlying90]
  go_simp
  obtain ⟨x0, x1, x2, x3, x4⟩ := x
  obtain ⟨y0, y1, y2, y3, y4⟩ := y
  simp only [GClip.mk.injEq]
  by_cases h0 : x0 = y0 <;> by_cases h1 : x1 = y1 <;> by_cases h2 : x2 = y2 <;> by_cases h3 : x3 = y3 <;> by_cases h4 : x4 = y4 <;> simp [h0, h1, h2, h3, h4]
theorem eqg_Clip : Tryz.prog.eqGuardType Tryz.prog.depth 90 = false := by kernel_rfl
theorem eq_Send (d : Nat) (x y : GSend) (w : World) : (Op.equalIn (d + 2) 148 (.agg #[.int .i64 x.fTo, .int .i64 x.fGain]) (.agg #[.int .i64 y.fTo, .int .i64 y.fGain])).run Tryz.prog w = .ok (decide (x = y)) w := by
  have u2 := Tryz.underlying2
  have a2 := Tryz.isAgg2
  have z2 := Tryz.sizeOf2
  have hS : Tryz.prog.underlying 148 = some (.struct (Tryz.prog.fieldsOf 148)) := by kernel_rfl
  rw [show d + 2 = (d + 1) + 1 from rfl, run_equalIn_agg w (d + 1) 148 _ _ hS (by kernel_rfl)]
  simp only [Program.fieldsOf, Tryz.underlying148]
  go_simp
  obtain ⟨x0, x1⟩ := x
  obtain ⟨y0, y1⟩ := y
  simp only [GSend.mk.injEq]
  by_cases h0 : x0 = y0 <;> by_cases h1 : x1 = y1 <;> simp [h0, h1]
theorem eqg_Send : Tryz.prog.eqGuardType Tryz.prog.depth 148 = false := by kernel_rfl
theorem eq_Tempo (d : Nat) (x y : GTempo) (w : World) : (Op.equalIn (d + 3) 185 (.agg #[.int .i64 x.fBeat.fNum, .int .i64 x.fBeat.fDen, .int .i64 x.fSamples]) (.agg #[.int .i64 y.fBeat.fNum, .int .i64 y.fBeat.fDen, .int .i64 y.fSamples])).run Tryz.prog w = .ok (decide (x = y)) w := by
  have u2 := Tryz.underlying2
  have a2 := Tryz.isAgg2
  have z2 := Tryz.sizeOf2
  have uf := Tryz.underlying52
  have af := Tryz.isAgg52
  have zf := Tryz.sizeOf52
  have e0 := eq_Frac d x.fBeat y.fBeat
  have hS : Tryz.prog.underlying 185 = some (.struct (Tryz.prog.fieldsOf 185)) := by kernel_rfl
  rw [show d + 3 = (d + 2) + 1 from rfl, run_equalIn_agg w (d + 2) 185 _ _ hS (by kernel_rfl)]
  simp only [Program.fieldsOf, Tryz.underlying185]
  go_simp
  obtain ⟨x0, x1⟩ := x
  obtain ⟨y0, y1⟩ := y
  simp only [GTempo.mk.injEq]
  by_cases h0 : x0 = y0 <;> by_cases h1 : x1 = y1 <;> simp [h0, h1]
theorem eqg_Tempo : Tryz.prog.eqGuardType Tryz.prog.depth 185 = false := by kernel_rfl
theorem eq_Note (d : Nat) (x y : GNote) (w : World) : (Op.equalIn (d + 3) 183 (.agg #[.int .i64 x.fAt.fNum, .int .i64 x.fAt.fDen, .int .i64 x.fLength.fNum, .int .i64 x.fLength.fDen, .int .i64 x.fKey, .int .i64 x.fVelocity, .int .i64 x.fChannel]) (.agg #[.int .i64 y.fAt.fNum, .int .i64 y.fAt.fDen, .int .i64 y.fLength.fNum, .int .i64 y.fLength.fDen, .int .i64 y.fKey, .int .i64 y.fVelocity, .int .i64 y.fChannel])).run Tryz.prog w = .ok (decide (x = y)) w := by
  have u2 := Tryz.underlying2
  have a2 := Tryz.isAgg2
  have z2 := Tryz.sizeOf2
  have uf := Tryz.underlying52
  have af := Tryz.isAgg52
  have zf := Tryz.sizeOf52
  have e0 := eq_Frac d x.fAt y.fAt
  have e1 := eq_Frac d x.fLength y.fLength
  have hS : Tryz.prog.underlying 183 = some (.struct (Tryz.prog.fieldsOf 183)) := by kernel_rfl
  rw [show d + 3 = (d + 2) + 1 from rfl, run_equalIn_agg w (d + 2) 183 _ _ hS (by kernel_rfl)]
  simp only [Program.fieldsOf, Tryz.underlying183]
  go_simp
  obtain ⟨x0, x1, x2, x3, x4⟩ := x
  obtain ⟨y0, y1, y2, y3, y4⟩ := y
  simp only [GNote.mk.injEq]
  by_cases h0 : x0 = y0 <;> by_cases h1 : x1 = y1 <;> by_cases h2 : x2 = y2 <;> by_cases h3 : x3 = y3 <;> by_cases h4 : x4 = y4 <;> simp [h0, h1, h2, h3, h4]
theorem eqg_Note : Tryz.prog.eqGuardType Tryz.prog.depth 183 = false := by kernel_rfl
set_option maxHeartbeats 1000000 in
theorem c_slEqClip (v u : Value) (xs ys : List GClip) (w : World) (hr : T.rd w (T.sl 90 5 (xs.map GClip.t)) [v]) (ht : T.rd w (T.sl 90 5 (ys.map GClip.t)) [u]) :
    Calls Tryz.prog 201 #[v, u] w fun e w' => e = .returned (.bool (decide (xs = ys))) ∧ Dr w w' := by
  obtain ⟨A1, cap1, rfl, hl1, hc1, hx1⟩ := T.rd_open hr
  obtain ⟨A2, cap2, rfl, hl2, hc2, hx2⟩ := T.rd_open ht
  rw [List.length_map] at hl1 hl2 ⊢
  rw [List.length_map]
  have HX1 := hide hx1; have HX2 := hide hx2; clear hx1 hx2 hr ht
  by_cases hll : xs.length = ys.length
  · have hb : ((xs.length : Int) != (ys.length : Int)) = false := by simp [hll]
    have HL := hide hll; clear hll
    have hgd := eqg_Clip
    go_enter Tryz.func201, Tryz.ntmps201
    go_wp2
    go_loopw [13] (fun i wr => ∃ k : Nat, k ≤ xs.length ∧ i = .int .i64 k ∧ xs.take k = ys.take k ∧ Dr w wr) (fun i _ => xs.length - (intOf i).toNat)
    case atStart => exact ⟨0, Nat.zero_le _, rfl, rfl, Dr.refl _⟩
    case round =>
      obtain ⟨k, hk, rfl, hs, nr, rfl⟩ := hrel
      have HS := hide hs; clear hs
      by_cases hlt : k < xs.length
      · have hlt2 : k < ys.length := by have := HL.out; omega
        obtain ⟨b1, o1, cs1, rfl, hbw1, hcs1, hcell1⟩ := HX1.out k (GClip.t xs[k]) (by rw [List.getElem?_map, List.getElem?_eq_getElem hlt]; rfl)
        obtain ⟨b2, o2, cs2, rfl, hbw2, hcs2, hcell2⟩ := HX2.out k (GClip.t ys[k]) (by rw [List.getElem?_map, List.getElem?_eq_getElem hlt2]; rfl)
        have hg1 := List.getElem?_eq_getElem hlt
        have hg2 := List.getElem?_eq_getElem hlt2
        generalize xs[k] = x at *
        generalize ys[k] = y at *
        have HG1 := hide hg1; have HG2 := hide hg2; clear hg1 hg2
        obtain rfl := GClip.rd_open (show T.rds _ _ _ by simpa only [GClip.t, T.rd] using hcs1)
        have d0 := hcell1 0 _ rfl
        rw [show o1 + (k * 5 + 0) = o1 + k * 5 by omega] at d0
        have d1 := hcell1 1 _ rfl
        rw [show o1 + (k * 5 + 1) = o1 + k * 5 + 1 by omega] at d1
        have d2 := hcell1 2 _ rfl
        rw [show o1 + (k * 5 + 2) = o1 + k * 5 + 2 by omega] at d2
        have d3 := hcell1 3 _ rfl
        rw [show o1 + (k * 5 + 3) = o1 + k * 5 + 3 by omega] at d3
        have d4 := hcell1 4 _ rfl
        rw [show o1 + (k * 5 + 4) = o1 + k * 5 + 4 by omega] at d4
        obtain rfl := GClip.rd_open (show T.rds _ _ _ by simpa only [GClip.t, T.rd] using hcs2)
        have g0 := hcell2 0 _ rfl
        rw [show o2 + (k * 5 + 0) = o2 + k * 5 by omega] at g0
        have g1 := hcell2 1 _ rfl
        rw [show o2 + (k * 5 + 1) = o2 + k * 5 + 1 by omega] at g1
        have g2 := hcell2 2 _ rfl
        rw [show o2 + (k * 5 + 2) = o2 + k * 5 + 2 by omega] at g2
        have g3 := hcell2 3 _ rfl
        rw [show o2 + (k * 5 + 3) = o2 + k * 5 + 3 by omega] at g3
        have g4 := hcell2 4 _ rfl
        rw [show o2 + (k * 5 + 4) = o2 + k * 5 + 4 by omega] at g4
        clear hcs1 hcs2 hcell1 hcell2
        have heq : ∀ w, (Op.equalIn 10000 90 (.agg #[.int .i64 x.fSource, .int .i64 x.fFrom, .int .i64 x.fLength, .int .i64 x.fAt, .int .i64 x.fGain]) (.agg #[.int .i64 y.fSource, .int .i64 y.fFrom, .int .i64 y.fLength, .int .i64 y.fAt, .int .i64 y.fGain])).run Tryz.prog w = .ok (decide (x = y)) w := eq_Clip 9998 x y
        by_cases he : x = y
        · have hde : decide (x = y) = true := decide_eq_true he
          rw [hde] at heq
          have HE := hide he; clear he hde
          go_wp2
          go_quiet (fail)
          go_wp2
          go_roundw
          case rel => exact ⟨k + 1, by omega, by go_num, takes_succ HS.out HG1.out (by rw [HE.out]; exact HG2.out), (by repeat (first | exact Dr.refl _ | exact ⟨_, rfl⟩ | refine Dr.drewN ?_ _ | refine Dr.drew ?_))⟩
          case measure => simp [intOf]; omega
        · have hde : decide (x = y) = false := decide_eq_false he
          rw [hde] at heq
          have HE := hide he; clear he hde
          go_wp2
          go_quiet (fail)
          go_wp2
          go_ret
          exact ⟨by simp [ne_at HG1.out HG2.out HE.out], (by repeat (first | exact Dr.refl _ | exact ⟨_, rfl⟩ | refine Dr.drewN ?_ _ | refine Dr.drew ?_))⟩
      · go_wp2
        go_ret
        exact ⟨by simp [eq_of_takes (k := k) (by omega) HL.out HS.out], (by repeat (first | exact Dr.refl _ | exact ⟨_, rfl⟩ | refine Dr.drewN ?_ _ | refine Dr.drew ?_))⟩
  · have hb : ((xs.length : Int) != (ys.length : Int)) = true := by simp; omega
    have hne : xs ≠ ys := fun e => hll (by rw [e])
    have HN := hide hne; clear hll hne
    go_enter Tryz.func201, Tryz.ntmps201
    go_wp2
    go_ret
    exact ⟨by simp [HN.out], Dr.refl _⟩
set_option maxHeartbeats 1000000 in
theorem c_slEqFrac (v u : Value) (xs ys : List GFrac) (w : World) (hr : T.rd w (T.sl 52 2 (xs.map GFrac.t)) [v]) (ht : T.rd w (T.sl 52 2 (ys.map GFrac.t)) [u]) :
    Calls Tryz.prog 126 #[v, u] w fun e w' => e = .returned (.bool (decide (xs = ys))) ∧ Dr w w' := by
  obtain ⟨A1, cap1, rfl, hl1, hc1, hx1⟩ := T.rd_open hr
  obtain ⟨A2, cap2, rfl, hl2, hc2, hx2⟩ := T.rd_open ht
  rw [List.length_map] at hl1 hl2 ⊢
  rw [List.length_map]
  have HX1 := hide hx1; have HX2 := hide hx2; clear hx1 hx2 hr ht
  by_cases hll : xs.length = ys.length
  · have hb : ((xs.length : Int) != (ys.length : Int)) = false := by simp [hll]
    have HL := hide hll; clear hll
    have hgd := eqg_Frac
    go_enter Tryz.func126, Tryz.ntmps126
    go_wp2
    go_loopw [13] (fun i wr => ∃ k : Nat, k ≤ xs.length ∧ i = .int .i64 k ∧ xs.take k = ys.take k ∧ Dr w wr) (fun i _ => xs.length - (intOf i).toNat)
    case atStart => exact ⟨0, Nat.zero_le _, rfl, rfl, Dr.refl _⟩
    case round =>
      obtain ⟨k, hk, rfl, hs, nr, rfl⟩ := hrel
      have HS := hide hs; clear hs
      by_cases hlt : k < xs.length
      · have hlt2 : k < ys.length := by have := HL.out; omega
        obtain ⟨b1, o1, cs1, rfl, hbw1, hcs1, hcell1⟩ := HX1.out k (GFrac.t xs[k]) (by rw [List.getElem?_map, List.getElem?_eq_getElem hlt]; rfl)
        obtain ⟨b2, o2, cs2, rfl, hbw2, hcs2, hcell2⟩ := HX2.out k (GFrac.t ys[k]) (by rw [List.getElem?_map, List.getElem?_eq_getElem hlt2]; rfl)
        have hg1 := List.getElem?_eq_getElem hlt
        have hg2 := List.getElem?_eq_getElem hlt2
        generalize xs[k] = x at *
        generalize ys[k] = y at *
        have HG1 := hide hg1; have HG2 := hide hg2; clear hg1 hg2
        obtain rfl := GFrac.rd_open (show T.rds _ _ _ by simpa only [GFrac.t, T.rd] using hcs1)
        have d0 := hcell1 0 _ rfl
        rw [show o1 + (k * 2 + 0) = o1 + k * 2 by omega] at d0
        have d1 := hcell1 1 _ rfl
        rw [show o1 + (k * 2 + 1) = o1 + k * 2 + 1 by omega] at d1
        obtain rfl := GFrac.rd_open (show T.rds _ _ _ by simpa only [GFrac.t, T.rd] using hcs2)
        have g0 := hcell2 0 _ rfl
        rw [show o2 + (k * 2 + 0) = o2 + k * 2 by omega] at g0
        have g1 := hcell2 1 _ rfl
        rw [show o2 + (k * 2 + 1) = o2 + k * 2 + 1 by omega] at g1
        clear hcs1 hcs2 hcell1 hcell2
        have heq : ∀ w, (Op.equalIn 10000 52 (.agg #[.int .i64 x.fNum, .int .i64 x.fDen]) (.agg #[.int .i64 y.fNum, .int .i64 y.fDen])).run Tryz.prog w = .ok (decide (x = y)) w := eq_Frac 9998 x y
        by_cases he : x = y
        · have hde : decide (x = y) = true := decide_eq_true he
          rw [hde] at heq
          have HE := hide he; clear he hde
          go_wp2
          go_quiet (fail)
          go_wp2
          go_roundw
          case rel => exact ⟨k + 1, by omega, by go_num, takes_succ HS.out HG1.out (by rw [HE.out]; exact HG2.out), (by repeat (first | exact Dr.refl _ | exact ⟨_, rfl⟩ | refine Dr.drewN ?_ _ | refine Dr.drew ?_))⟩
          case measure => simp [intOf]; omega
        · have hde : decide (x = y) = false := decide_eq_false he
          rw [hde] at heq
          have HE := hide he; clear he hde
          go_wp2
          go_quiet (fail)
          go_wp2
          go_ret
          exact ⟨by simp [ne_at HG1.out HG2.out HE.out], (by repeat (first | exact Dr.refl _ | exact ⟨_, rfl⟩ | refine Dr.drewN ?_ _ | refine Dr.drew ?_))⟩
      · go_wp2
        go_ret
        exact ⟨by simp [eq_of_takes (k := k) (by omega) HL.out HS.out], (by repeat (first | exact Dr.refl _ | exact ⟨_, rfl⟩ | refine Dr.drewN ?_ _ | refine Dr.drew ?_))⟩
  · have hb : ((xs.length : Int) != (ys.length : Int)) = true := by simp; omega
    have hne : xs ≠ ys := fun e => hll (by rw [e])
    have HN := hide hne; clear hll hne
    go_enter Tryz.func126, Tryz.ntmps126
    go_wp2
    go_ret
    exact ⟨by simp [HN.out], Dr.refl _⟩
set_option maxHeartbeats 1000000 in
theorem c_slEqNote (v u : Value) (xs ys : List GNote) (w : World) (hr : T.rd w (T.sl 183 7 (xs.map GNote.t)) [v]) (ht : T.rd w (T.sl 183 7 (ys.map GNote.t)) [u]) :
    Calls Tryz.prog 125 #[v, u] w fun e w' => e = .returned (.bool (decide (xs = ys))) ∧ Dr w w' := by
  obtain ⟨A1, cap1, rfl, hl1, hc1, hx1⟩ := T.rd_open hr
  obtain ⟨A2, cap2, rfl, hl2, hc2, hx2⟩ := T.rd_open ht
  rw [List.length_map] at hl1 hl2 ⊢
  rw [List.length_map]
  have HX1 := hide hx1; have HX2 := hide hx2; clear hx1 hx2 hr ht
  by_cases hll : xs.length = ys.length
  · have hb : ((xs.length : Int) != (ys.length : Int)) = false := by simp [hll]
    have HL := hide hll; clear hll
    have hgd := eqg_Note
    go_enter Tryz.func125, Tryz.ntmps125
    go_wp2
    go_loopw [13] (fun i wr => ∃ k : Nat, k ≤ xs.length ∧ i = .int .i64 k ∧ xs.take k = ys.take k ∧ Dr w wr) (fun i _ => xs.length - (intOf i).toNat)
    case atStart => exact ⟨0, Nat.zero_le _, rfl, rfl, Dr.refl _⟩
    case round =>
      obtain ⟨k, hk, rfl, hs, nr, rfl⟩ := hrel
      have HS := hide hs; clear hs
      by_cases hlt : k < xs.length
      · have hlt2 : k < ys.length := by have := HL.out; omega
        obtain ⟨b1, o1, cs1, rfl, hbw1, hcs1, hcell1⟩ := HX1.out k (GNote.t xs[k]) (by rw [List.getElem?_map, List.getElem?_eq_getElem hlt]; rfl)
        obtain ⟨b2, o2, cs2, rfl, hbw2, hcs2, hcell2⟩ := HX2.out k (GNote.t ys[k]) (by rw [List.getElem?_map, List.getElem?_eq_getElem hlt2]; rfl)
        have hg1 := List.getElem?_eq_getElem hlt
        have hg2 := List.getElem?_eq_getElem hlt2
        generalize xs[k] = x at *
        generalize ys[k] = y at *
        have HG1 := hide hg1; have HG2 := hide hg2; clear hg1 hg2
        obtain rfl := GNote.rd_open (show T.rds _ _ _ by simpa only [GNote.t, T.rd] using hcs1)
        have d0 := hcell1 0 _ rfl
        rw [show o1 + (k * 7 + 0) = o1 + k * 7 by omega] at d0
        have d1 := hcell1 1 _ rfl
        rw [show o1 + (k * 7 + 1) = o1 + k * 7 + 1 by omega] at d1
        have d2 := hcell1 2 _ rfl
        rw [show o1 + (k * 7 + 2) = o1 + k * 7 + 2 by omega] at d2
        have d3 := hcell1 3 _ rfl
        rw [show o1 + (k * 7 + 3) = o1 + k * 7 + 3 by omega] at d3
        have d4 := hcell1 4 _ rfl
        rw [show o1 + (k * 7 + 4) = o1 + k * 7 + 4 by omega] at d4
        have d5 := hcell1 5 _ rfl
        rw [show o1 + (k * 7 + 5) = o1 + k * 7 + 5 by omega] at d5
        have d6 := hcell1 6 _ rfl
        rw [show o1 + (k * 7 + 6) = o1 + k * 7 + 6 by omega] at d6
        obtain rfl := GNote.rd_open (show T.rds _ _ _ by simpa only [GNote.t, T.rd] using hcs2)
        have g0 := hcell2 0 _ rfl
        rw [show o2 + (k * 7 + 0) = o2 + k * 7 by omega] at g0
        have g1 := hcell2 1 _ rfl
        rw [show o2 + (k * 7 + 1) = o2 + k * 7 + 1 by omega] at g1
        have g2 := hcell2 2 _ rfl
        rw [show o2 + (k * 7 + 2) = o2 + k * 7 + 2 by omega] at g2
        have g3 := hcell2 3 _ rfl
        rw [show o2 + (k * 7 + 3) = o2 + k * 7 + 3 by omega] at g3
        have g4 := hcell2 4 _ rfl
        rw [show o2 + (k * 7 + 4) = o2 + k * 7 + 4 by omega] at g4
        have g5 := hcell2 5 _ rfl
        rw [show o2 + (k * 7 + 5) = o2 + k * 7 + 5 by omega] at g5
        have g6 := hcell2 6 _ rfl
        rw [show o2 + (k * 7 + 6) = o2 + k * 7 + 6 by omega] at g6
        clear hcs1 hcs2 hcell1 hcell2
        have heq : ∀ w, (Op.equalIn 10000 183 (.agg #[.int .i64 x.fAt.fNum, .int .i64 x.fAt.fDen, .int .i64 x.fLength.fNum, .int .i64 x.fLength.fDen, .int .i64 x.fKey, .int .i64 x.fVelocity, .int .i64 x.fChannel]) (.agg #[.int .i64 y.fAt.fNum, .int .i64 y.fAt.fDen, .int .i64 y.fLength.fNum, .int .i64 y.fLength.fDen, .int .i64 y.fKey, .int .i64 y.fVelocity, .int .i64 y.fChannel])).run Tryz.prog w = .ok (decide (x = y)) w := eq_Note 9997 x y
        by_cases he : x = y
        · have hde : decide (x = y) = true := decide_eq_true he
          rw [hde] at heq
          have HE := hide he; clear he hde
          go_wp2
          go_quiet (fail)
          go_wp2
          go_roundw
          case rel => exact ⟨k + 1, by omega, by go_num, takes_succ HS.out HG1.out (by rw [HE.out]; exact HG2.out), (by repeat (first | exact Dr.refl _ | exact ⟨_, rfl⟩ | refine Dr.drewN ?_ _ | refine Dr.drew ?_))⟩
          case measure => simp [intOf]; omega
        · have hde : decide (x = y) = false := decide_eq_false he
          rw [hde] at heq
          have HE := hide he; clear he hde
          go_wp2
          go_quiet (fail)
          go_wp2
          go_ret
          exact ⟨by simp [ne_at HG1.out HG2.out HE.out], (by repeat (first | exact Dr.refl _ | exact ⟨_, rfl⟩ | refine Dr.drewN ?_ _ | refine Dr.drew ?_))⟩
      · go_wp2
        go_ret
        exact ⟨by simp [eq_of_takes (k := k) (by omega) HL.out HS.out], (by repeat (first | exact Dr.refl _ | exact ⟨_, rfl⟩ | refine Dr.drewN ?_ _ | refine Dr.drew ?_))⟩
  · have hb : ((xs.length : Int) != (ys.length : Int)) = true := by simp; omega
    have hne : xs ≠ ys := fun e => hll (by rw [e])
    have HN := hide hne; clear hll hne
    go_enter Tryz.func125, Tryz.ntmps125
    go_wp2
    go_ret
    exact ⟨by simp [HN.out], Dr.refl _⟩
theorem c_iSameScore (a b : GScore) (v u : Value) (w : World) (hr : T.rd w (T.sl 183 7 (a.fNotes.map GNote.t)) [v]) (ht : T.rd w (T.sl 183 7 (b.fNotes.map GNote.t)) [u]) :
    Calls Tryz.prog 61 #[.agg #[v], .agg #[u]] w fun e w' => e = .returned (.bool (decide (a = b))) ∧ Below w.heap.size w w' := by
  have HR := hide hr; have HT := hide ht; clear hr ht
  have hab : decide (a = b) = decide (a.fNotes = b.fNotes) := by obtain ⟨xs⟩ := a; obtain ⟨ys⟩ := b; simp
  rw [hab]
  clear hab
  have hb0 : Below w.heap.size w ((w.alloc (.cells #[v] 48)).alloc (.cells #[u] 48)) := ((Below.refl _ _).alloc (Nat.le_refl _) _).alloc (by first | (simp; done) | (simp; omega) | omega) _
  have HB0 := hide hb0; clear hb0
  obtain ⟨A1, l1, c1, rfl⟩ := T.rd_slice HR.out
  obtain ⟨A2, l2, c2, rfl⟩ := T.rd_slice HT.out
  go_enter Tryz.func61, Tryz.ntmps61
  go_wp2_with fail
  refine (c_slEqNote _ _ a.fNotes b.fNotes _ (T.rd_below HR.out HB0.out) (T.rd_below HT.out HB0.out)).mono ?_; rintro e w1 ⟨rfl, hd⟩
  have HB1 := hide (Dr.below HB0.out hd); clear hd
  go_wp2
  go_ret
  exact ⟨rfl, HB1.out⟩
theorem c_iSameTrack (a b : GTrack) (v u : Value) (w : World) (hr : T.rd w (T.sl 90 5 (a.fClips.map GClip.t)) [v]) (ht : T.rd w (T.sl 90 5 (b.fClips.map GClip.t)) [u]) :
    Calls Tryz.prog 129 #[.agg #[v], .agg #[u]] w fun e w' => e = .returned (.bool (decide (a = b))) ∧ Below w.heap.size w w' := by
  have HR := hide hr; have HT := hide ht; clear hr ht
  have hab : decide (a = b) = decide (a.fClips = b.fClips) := by obtain ⟨xs⟩ := a; obtain ⟨ys⟩ := b; simp
  rw [hab]
  clear hab
  have hb0 : Below w.heap.size w ((w.alloc (.cells #[v] 146)).alloc (.cells #[u] 146)) := ((Below.refl _ _).alloc (Nat.le_refl _) _).alloc (by first | (simp; done) | (simp; omega) | omega) _
  have HB0 := hide hb0; clear hb0
  obtain ⟨A1, l1, c1, rfl⟩ := T.rd_slice HR.out
  obtain ⟨A2, l2, c2, rfl⟩ := T.rd_slice HT.out
  go_enter Tryz.func129, Tryz.ntmps129
  go_wp2_with fail
  refine (c_slEqClip _ _ a.fClips b.fClips _ (T.rd_below HR.out HB0.out) (T.rd_below HT.out HB0.out)).mono ?_; rintro e w1 ⟨rfl, hd⟩
  have HB1 := hide (Dr.below HB0.out hd); clear hd
  go_wp2
  go_ret
  exact ⟨rfl, HB1.out⟩
set_option maxHeartbeats 1000000 in
theorem c_sSameScore (a b : GScore) (v u : Value) (w : World) (hr : T.rd w (T.sl 183 7 (a.fNotes.map GNote.t)) [v]) (ht : T.rd w (T.sl 183 7 (b.fNotes.map GNote.t)) [u]) :
    Calls Tryz.prog 53 #[.agg #[v], .agg #[u]] w fun e w' => e = .returned (.bool (decide (a = b))) ∧ Below w.heap.size w w' := by
  obtain ⟨xs⟩ := a
  obtain ⟨ys⟩ := b
  simp only at hr ht
  obtain ⟨A1, cap1, rfl, hl1, hc1, hx1⟩ := T.rd_open hr
  obtain ⟨A2, cap2, rfl, hl2, hc2, hx2⟩ := T.rd_open ht
  rw [List.length_map] at hl1 hl2 ⊢
  rw [List.length_map]
  have HX1 := hide hx1; have HX2 := hide hx2; clear hx1 hx2 hr ht
  by_cases hll : xs.length = ys.length
  · have hb : ((xs.length : Int) != (ys.length : Int)) = false := by simp [hll]
    have HL := hide hll; clear hll
    have hgd := eqg_Note
    go_enter Tryz.func53, Tryz.ntmps53
    have HB0 := hide (show Below w.heap.size w ((w.alloc (.cells #[(.slice A1 xs.length cap1)] 48)).alloc (.cells #[(.slice A2 ys.length cap2)] 48)) from ((Below.refl _ _).alloc (Nat.le_refl _) _).alloc (by first | (simp; done) | (simp; omega) | omega) _)
    have HKA := hide ((Bk.born w 48 #[(.slice A1 xs.length cap1)]).alloc (.cells #[(.slice A2 ys.length cap2)] 48))
    have HKB := hide (Bk.born1' w (.cells #[(.slice A1 xs.length cap1)] 48) 48 #[(.slice A2 ys.length cap2)])
    go_wp2
    go_loopw [5] (fun i wr => ∃ k : Nat, k ≤ xs.length ∧ i = .int .i64 k ∧ xs.take k = ys.take k ∧ Below (w.heap.size + 2) ((w.alloc (.cells #[(.slice A1 xs.length cap1)] 48)).alloc (.cells #[(.slice A2 ys.length cap2)] 48)) wr) (fun i _ => xs.length - (intOf i).toNat)
    case atStart => exact ⟨0, Nat.zero_le _, rfl, rfl, Below.refl _ _⟩
    case round =>
      obtain ⟨k, hk, rfl, hs, hbw⟩ := hrel
      have HS := hide hs; have HW := hide hbw; have hsz := hbw.size; clear hs hbw
      have hsz2 : w.heap.size + 2 ≤ wr.heap.size := by simpa using hsz
      clear hsz
      have HB := hide (show Below w.heap.size w wr from bthen HB0.out (by first | (simp; done) | (simp; omega) | omega) (HW.out.mono (by first | (simp; done) | (simp; omega) | omega)))
      have ka := (HKA.out.below HW.out (by first | (simp; done) | (simp; omega) | omega)).cell; have kb := (HKB.out.below HW.out (by first | (simp; done) | (simp; omega) | omega)).cell
      have la : w.heap.size < wr.heap.size := by omega
      have lb : w.heap.size + 1 < wr.heap.size := by omega
      by_cases hlt : k < xs.length
      · have hlt2 : k < ys.length := by have := HL.out; omega
        obtain ⟨b1, o1, cs1, rfl, hbw1, hcs1, hcell1⟩ := HX1.out k (GNote.t xs[k]) (by rw [List.getElem?_map, List.getElem?_eq_getElem hlt]; rfl)
        obtain ⟨b2, o2, cs2, rfl, hbw2, hcs2, hcell2⟩ := HX2.out k (GNote.t ys[k]) (by rw [List.getElem?_map, List.getElem?_eq_getElem hlt2]; rfl)
        have hg1 := List.getElem?_eq_getElem hlt
        have hg2 := List.getElem?_eq_getElem hlt2
        generalize xs[k] = x at *
        generalize ys[k] = y at *
        have HG1 := hide hg1; have HG2 := hide hg2; clear hg1 hg2
        obtain rfl := GNote.rd_open (show T.rds _ _ _ by simpa only [GNote.t, T.rd] using hcs1)
        have d0 := (HB.out.cell hbw1).trans (hcell1 0 _ rfl)
        rw [show o1 + (k * 7 + 0) = o1 + k * 7 by omega] at d0
        have d1 := (HB.out.cell hbw1).trans (hcell1 1 _ rfl)
        rw [show o1 + (k * 7 + 1) = o1 + k * 7 + 1 by omega] at d1
        have d2 := (HB.out.cell hbw1).trans (hcell1 2 _ rfl)
        rw [show o1 + (k * 7 + 2) = o1 + k * 7 + 2 by omega] at d2
        have d3 := (HB.out.cell hbw1).trans (hcell1 3 _ rfl)
        rw [show o1 + (k * 7 + 3) = o1 + k * 7 + 3 by omega] at d3
        have d4 := (HB.out.cell hbw1).trans (hcell1 4 _ rfl)
        rw [show o1 + (k * 7 + 4) = o1 + k * 7 + 4 by omega] at d4
        have d5 := (HB.out.cell hbw1).trans (hcell1 5 _ rfl)
        rw [show o1 + (k * 7 + 5) = o1 + k * 7 + 5 by omega] at d5
        have d6 := (HB.out.cell hbw1).trans (hcell1 6 _ rfl)
        rw [show o1 + (k * 7 + 6) = o1 + k * 7 + 6 by omega] at d6
        have hq1 : b1 < wr.heap.size := Nat.lt_of_lt_of_le hbw1 HB.out.size
        obtain rfl := GNote.rd_open (show T.rds _ _ _ by simpa only [GNote.t, T.rd] using hcs2)
        have g0 := (HB.out.cell hbw2).trans (hcell2 0 _ rfl)
        rw [show o2 + (k * 7 + 0) = o2 + k * 7 by omega] at g0
        have g1 := (HB.out.cell hbw2).trans (hcell2 1 _ rfl)
        rw [show o2 + (k * 7 + 1) = o2 + k * 7 + 1 by omega] at g1
        have g2 := (HB.out.cell hbw2).trans (hcell2 2 _ rfl)
        rw [show o2 + (k * 7 + 2) = o2 + k * 7 + 2 by omega] at g2
        have g3 := (HB.out.cell hbw2).trans (hcell2 3 _ rfl)
        rw [show o2 + (k * 7 + 3) = o2 + k * 7 + 3 by omega] at g3
        have g4 := (HB.out.cell hbw2).trans (hcell2 4 _ rfl)
        rw [show o2 + (k * 7 + 4) = o2 + k * 7 + 4 by omega] at g4
        have g5 := (HB.out.cell hbw2).trans (hcell2 5 _ rfl)
        rw [show o2 + (k * 7 + 5) = o2 + k * 7 + 5 by omega] at g5
        have g6 := (HB.out.cell hbw2).trans (hcell2 6 _ rfl)
        rw [show o2 + (k * 7 + 6) = o2 + k * 7 + 6 by omega] at g6
        have hq2 : b2 < wr.heap.size := Nat.lt_of_lt_of_le hbw2 HB.out.size
        clear hcs1 hcs2 hcell1 hcell2
        have heq : ∀ w, (Op.equalIn 10000 183 (.agg #[.int .i64 x.fAt.fNum, .int .i64 x.fAt.fDen, .int .i64 x.fLength.fNum, .int .i64 x.fLength.fDen, .int .i64 x.fKey, .int .i64 x.fVelocity, .int .i64 x.fChannel]) (.agg #[.int .i64 y.fAt.fNum, .int .i64 y.fAt.fDen, .int .i64 y.fLength.fNum, .int .i64 y.fLength.fDen, .int .i64 y.fKey, .int .i64 y.fVelocity, .int .i64 y.fChannel])).run Tryz.prog w = .ok (decide (x = y)) w := eq_Note 9997 x y
        have hW := HW.out
        have hB := HB.out
        by_cases he : x = y
        · have hde : decide (x = y) = true := decide_eq_true he
          rw [hde] at heq
          have HE := hide he; clear he hde
          go_wp2
          go_quiet (fail)
          go_wp2
          go_roundw
          case rel => exact ⟨k + 1, by omega, by go_num, takes_succ HS.out HG1.out (by rw [HE.out]; exact HG2.out), (by repeat (first | with_reducible exact Below.refl _ _ | with_reducible assumption | with_reducible refine Below.setCell ?_ (by first | omega | (simp; done) | (simp; omega)) _ | with_reducible refine Below.alloc ?_ (by first | omega | (simp; done) | (simp; omega)) _ | with_reducible refine Below.drew ?_ | with_reducible refine below_drewN ?_ _ | exact Below.refl _ _ | assumption | refine Below.drew ?_ | refine below_drewN ?_ _ | refine Below.alloc ?_ (by first | omega | (simp; done) | (simp; omega)) _ | refine Below.setCell ?_ (by first | omega | (simp; done) | (simp; omega)) _))⟩
          case measure => simp [intOf]; omega
        · have hde : decide (x = y) = false := decide_eq_false he
          rw [hde] at heq
          have HE := hide he; clear he hde
          go_wp2
          go_quiet (fail)
          go_wp2
          go_ret
          exact ⟨ret_bool (by rw [decide_eq_false]; intro e; injection e with e; exact ne_at HG1.out HG2.out HE.out e), (by repeat (first | with_reducible exact Below.refl _ _ | with_reducible assumption | with_reducible refine Below.setCell ?_ (by first | omega | (simp; done) | (simp; omega)) _ | with_reducible refine Below.alloc ?_ (by first | omega | (simp; done) | (simp; omega)) _ | with_reducible refine Below.drew ?_ | with_reducible refine below_drewN ?_ _ | exact Below.refl _ _ | assumption | refine Below.drew ?_ | refine below_drewN ?_ _ | refine Below.alloc ?_ (by first | omega | (simp; done) | (simp; omega)) _ | refine Below.setCell ?_ (by first | omega | (simp; done) | (simp; omega)) _))⟩
      · go_wp2
        go_ret
        exact ⟨ret_bool (by rw [decide_eq_true]; rw [eq_of_takes (k := k) (by omega) HL.out HS.out]), HB.out⟩
  · have hb : ((xs.length : Int) != (ys.length : Int)) = true := by simp; omega
    have hne : xs ≠ ys := fun e => hll (by rw [e])
    have HN := hide hne; clear hll hne
    go_enter Tryz.func53, Tryz.ntmps53
    go_wp2
    go_ret
    exact ⟨ret_bool (by rw [decide_eq_false]; intro e; injection e with e; exact HN.out e), (by repeat (first | with_reducible exact Below.refl _ _ | with_reducible assumption | with_reducible refine Below.setCell ?_ (by first | omega | (simp; done) | (simp; omega)) _ | with_reducible refine Below.alloc ?_ (by first | omega | (simp; done) | (simp; omega)) _ | with_reducible refine Below.drew ?_ | with_reducible refine below_drewN ?_ _ | exact Below.refl _ _ | assumption | refine Below.drew ?_ | refine below_drewN ?_ _ | refine Below.alloc ?_ (by first | omega | (simp; done) | (simp; omega)) _ | refine Below.setCell ?_ (by first | omega | (simp; done) | (simp; omega)) _))⟩
set_option maxHeartbeats 1000000 in
theorem c_sSameTempos (a b : GTempoMap) (v u : Value) (w : World) (hr : T.rd w (T.sl 185 3 (a.fTempos.map GTempo.t)) [v]) (ht : T.rd w (T.sl 185 3 (b.fTempos.map GTempo.t)) [u]) :
    Calls Tryz.prog 54 #[.agg #[v], .agg #[u]] w fun e w' => e = .returned (.bool (decide (a = b))) ∧ Below w.heap.size w w' := by
  obtain ⟨xs⟩ := a
  obtain ⟨ys⟩ := b
  simp only at hr ht
  obtain ⟨A1, cap1, rfl, hl1, hc1, hx1⟩ := T.rd_open hr
  obtain ⟨A2, cap2, rfl, hl2, hc2, hx2⟩ := T.rd_open ht
  rw [List.length_map] at hl1 hl2 ⊢
  rw [List.length_map]
  have HX1 := hide hx1; have HX2 := hide hx2; clear hx1 hx2 hr ht
  by_cases hll : xs.length = ys.length
  · have hb : ((xs.length : Int) != (ys.length : Int)) = false := by simp [hll]
    have HL := hide hll; clear hll
    have hgd := eqg_Tempo
    go_enter Tryz.func54, Tryz.ntmps54
    have HB0 := hide (show Below w.heap.size w ((w.alloc (.cells #[(.slice A1 xs.length cap1)] 51)).alloc (.cells #[(.slice A2 ys.length cap2)] 51)) from ((Below.refl _ _).alloc (Nat.le_refl _) _).alloc (by first | (simp; done) | (simp; omega) | omega) _)
    have HKA := hide ((Bk.born w 51 #[(.slice A1 xs.length cap1)]).alloc (.cells #[(.slice A2 ys.length cap2)] 51))
    have HKB := hide (Bk.born1' w (.cells #[(.slice A1 xs.length cap1)] 51) 51 #[(.slice A2 ys.length cap2)])
    go_wp2
    go_loopw [5] (fun i wr => ∃ k : Nat, k ≤ xs.length ∧ i = .int .i64 k ∧ xs.take k = ys.take k ∧ Below (w.heap.size + 2) ((w.alloc (.cells #[(.slice A1 xs.length cap1)] 51)).alloc (.cells #[(.slice A2 ys.length cap2)] 51)) wr) (fun i _ => xs.length - (intOf i).toNat)
    case atStart => exact ⟨0, Nat.zero_le _, rfl, rfl, Below.refl _ _⟩
    case round =>
      obtain ⟨k, hk, rfl, hs, hbw⟩ := hrel
      have HS := hide hs; have HW := hide hbw; have hsz := hbw.size; clear hs hbw
      have hsz2 : w.heap.size + 2 ≤ wr.heap.size := by simpa using hsz
      clear hsz
      have HB := hide (show Below w.heap.size w wr from bthen HB0.out (by first | (simp; done) | (simp; omega) | omega) (HW.out.mono (by first | (simp; done) | (simp; omega) | omega)))
      have ka := (HKA.out.below HW.out (by first | (simp; done) | (simp; omega) | omega)).cell; have kb := (HKB.out.below HW.out (by first | (simp; done) | (simp; omega) | omega)).cell
      have la : w.heap.size < wr.heap.size := by omega
      have lb : w.heap.size + 1 < wr.heap.size := by omega
      by_cases hlt : k < xs.length
      · have hlt2 : k < ys.length := by have := HL.out; omega
        obtain ⟨b1, o1, cs1, rfl, hbw1, hcs1, hcell1⟩ := HX1.out k (GTempo.t xs[k]) (by rw [List.getElem?_map, List.getElem?_eq_getElem hlt]; rfl)
        obtain ⟨b2, o2, cs2, rfl, hbw2, hcs2, hcell2⟩ := HX2.out k (GTempo.t ys[k]) (by rw [List.getElem?_map, List.getElem?_eq_getElem hlt2]; rfl)
        have hg1 := List.getElem?_eq_getElem hlt
        have hg2 := List.getElem?_eq_getElem hlt2
        generalize xs[k] = x at *
        generalize ys[k] = y at *
        have HG1 := hide hg1; have HG2 := hide hg2; clear hg1 hg2
        obtain rfl := GTempo.rd_open (show T.rds _ _ _ by simpa only [GTempo.t, T.rd] using hcs1)
        have d0 := (HB.out.cell hbw1).trans (hcell1 0 _ rfl)
        rw [show o1 + (k * 3 + 0) = o1 + k * 3 by omega] at d0
        have d1 := (HB.out.cell hbw1).trans (hcell1 1 _ rfl)
        rw [show o1 + (k * 3 + 1) = o1 + k * 3 + 1 by omega] at d1
        have d2 := (HB.out.cell hbw1).trans (hcell1 2 _ rfl)
        rw [show o1 + (k * 3 + 2) = o1 + k * 3 + 2 by omega] at d2
        have hq1 : b1 < wr.heap.size := Nat.lt_of_lt_of_le hbw1 HB.out.size
        obtain rfl := GTempo.rd_open (show T.rds _ _ _ by simpa only [GTempo.t, T.rd] using hcs2)
        have g0 := (HB.out.cell hbw2).trans (hcell2 0 _ rfl)
        rw [show o2 + (k * 3 + 0) = o2 + k * 3 by omega] at g0
        have g1 := (HB.out.cell hbw2).trans (hcell2 1 _ rfl)
        rw [show o2 + (k * 3 + 1) = o2 + k * 3 + 1 by omega] at g1
        have g2 := (HB.out.cell hbw2).trans (hcell2 2 _ rfl)
        rw [show o2 + (k * 3 + 2) = o2 + k * 3 + 2 by omega] at g2
        have hq2 : b2 < wr.heap.size := Nat.lt_of_lt_of_le hbw2 HB.out.size
        clear hcs1 hcs2 hcell1 hcell2
        have heq : ∀ w, (Op.equalIn 10000 185 (.agg #[.int .i64 x.fBeat.fNum, .int .i64 x.fBeat.fDen, .int .i64 x.fSamples]) (.agg #[.int .i64 y.fBeat.fNum, .int .i64 y.fBeat.fDen, .int .i64 y.fSamples])).run Tryz.prog w = .ok (decide (x = y)) w := eq_Tempo 9997 x y
        have hW := HW.out
        have hB := HB.out
        by_cases he : x = y
        · have hde : decide (x = y) = true := decide_eq_true he
          rw [hde] at heq
          have HE := hide he; clear he hde
          go_wp2
          go_quiet (fail)
          go_wp2
          go_roundw
          case rel => exact ⟨k + 1, by omega, by go_num, takes_succ HS.out HG1.out (by rw [HE.out]; exact HG2.out), (by repeat (first | with_reducible exact Below.refl _ _ | with_reducible assumption | with_reducible refine Below.setCell ?_ (by first | omega | (simp; done) | (simp; omega)) _ | with_reducible refine Below.alloc ?_ (by first | omega | (simp; done) | (simp; omega)) _ | with_reducible refine Below.drew ?_ | with_reducible refine below_drewN ?_ _ | exact Below.refl _ _ | assumption | refine Below.drew ?_ | refine below_drewN ?_ _ | refine Below.alloc ?_ (by first | omega | (simp; done) | (simp; omega)) _ | refine Below.setCell ?_ (by first | omega | (simp; done) | (simp; omega)) _))⟩
          case measure => simp [intOf]; omega
        · have hde : decide (x = y) = false := decide_eq_false he
          rw [hde] at heq
          have HE := hide he; clear he hde
          go_wp2
          go_quiet (fail)
          go_wp2
          go_ret
          exact ⟨ret_bool (by rw [decide_eq_false]; intro e; injection e with e; exact ne_at HG1.out HG2.out HE.out e), (by repeat (first | with_reducible exact Below.refl _ _ | with_reducible assumption | with_reducible refine Below.setCell ?_ (by first | omega | (simp; done) | (simp; omega)) _ | with_reducible refine Below.alloc ?_ (by first | omega | (simp; done) | (simp; omega)) _ | with_reducible refine Below.drew ?_ | with_reducible refine below_drewN ?_ _ | exact Below.refl _ _ | assumption | refine Below.drew ?_ | refine below_drewN ?_ _ | refine Below.alloc ?_ (by first | omega | (simp; done) | (simp; omega)) _ | refine Below.setCell ?_ (by first | omega | (simp; done) | (simp; omega)) _))⟩
      · go_wp2
        go_ret
        exact ⟨ret_bool (by rw [decide_eq_true]; rw [eq_of_takes (k := k) (by omega) HL.out HS.out]), HB.out⟩
  · have hb : ((xs.length : Int) != (ys.length : Int)) = true := by simp; omega
    have hne : xs ≠ ys := fun e => hll (by rw [e])
    have HN := hide hne; clear hll hne
    go_enter Tryz.func54, Tryz.ntmps54
    go_wp2
    go_ret
    exact ⟨ret_bool (by rw [decide_eq_false]; intro e; injection e with e; exact HN.out e), (by repeat (first | with_reducible exact Below.refl _ _ | with_reducible assumption | with_reducible refine Below.setCell ?_ (by first | omega | (simp; done) | (simp; omega)) _ | with_reducible refine Below.alloc ?_ (by first | omega | (simp; done) | (simp; omega)) _ | with_reducible refine Below.drew ?_ | with_reducible refine below_drewN ?_ _ | exact Below.refl _ _ | assumption | refine Below.drew ?_ | refine below_drewN ?_ _ | refine Below.alloc ?_ (by first | omega | (simp; done) | (simp; omega)) _ | refine Below.setCell ?_ (by first | omega | (simp; done) | (simp; omega)) _))⟩
set_option maxHeartbeats 1000000 in
theorem c_sSameTrack (a b : GTrack) (v u : Value) (w : World) (hr : T.rd w (T.sl 90 5 (a.fClips.map GClip.t)) [v]) (ht : T.rd w (T.sl 90 5 (b.fClips.map GClip.t)) [u]) :
    Calls Tryz.prog 90 #[.agg #[v], .agg #[u]] w fun e w' => e = .returned (.bool (decide (a = b))) ∧ Below w.heap.size w w' := by
  obtain ⟨xs⟩ := a
  obtain ⟨ys⟩ := b
  simp only at hr ht
  obtain ⟨A1, cap1, rfl, hl1, hc1, hx1⟩ := T.rd_open hr
  obtain ⟨A2, cap2, rfl, hl2, hc2, hx2⟩ := T.rd_open ht
  rw [List.length_map] at hl1 hl2 ⊢
  rw [List.length_map]
  have HX1 := hide hx1; have HX2 := hide hx2; clear hx1 hx2 hr ht
  by_cases hll : xs.length = ys.length
  · have hb : ((xs.length : Int) != (ys.length : Int)) = false := by simp [hll]
    have HL := hide hll; clear hll
    have hgd := eqg_Clip
    go_enter Tryz.func90, Tryz.ntmps90
    have HB0 := hide (show Below w.heap.size w ((w.alloc (.cells #[(.slice A1 xs.length cap1)] 146)).alloc (.cells #[(.slice A2 ys.length cap2)] 146)) from ((Below.refl _ _).alloc (Nat.le_refl _) _).alloc (by first | (simp; done) | (simp; omega) | omega) _)
    have HKA := hide ((Bk.born w 146 #[(.slice A1 xs.length cap1)]).alloc (.cells #[(.slice A2 ys.length cap2)] 146))
    have HKB := hide (Bk.born1' w (.cells #[(.slice A1 xs.length cap1)] 146) 146 #[(.slice A2 ys.length cap2)])
    go_wp2
    go_loopw [5] (fun i wr => ∃ k : Nat, k ≤ xs.length ∧ i = .int .i64 k ∧ xs.take k = ys.take k ∧ Below (w.heap.size + 2) ((w.alloc (.cells #[(.slice A1 xs.length cap1)] 146)).alloc (.cells #[(.slice A2 ys.length cap2)] 146)) wr) (fun i _ => xs.length - (intOf i).toNat)
    case atStart => exact ⟨0, Nat.zero_le _, rfl, rfl, Below.refl _ _⟩
    case round =>
      obtain ⟨k, hk, rfl, hs, hbw⟩ := hrel
      have HS := hide hs; have HW := hide hbw; have hsz := hbw.size; clear hs hbw
      have hsz2 : w.heap.size + 2 ≤ wr.heap.size := by simpa using hsz
      clear hsz
      have HB := hide (show Below w.heap.size w wr from bthen HB0.out (by first | (simp; done) | (simp; omega) | omega) (HW.out.mono (by first | (simp; done) | (simp; omega) | omega)))
      have ka := (HKA.out.below HW.out (by first | (simp; done) | (simp; omega) | omega)).cell; have kb := (HKB.out.below HW.out (by first | (simp; done) | (simp; omega) | omega)).cell
      have la : w.heap.size < wr.heap.size := by omega
      have lb : w.heap.size + 1 < wr.heap.size := by omega
      by_cases hlt : k < xs.length
      · have hlt2 : k < ys.length := by have := HL.out; omega
        obtain ⟨b1, o1, cs1, rfl, hbw1, hcs1, hcell1⟩ := HX1.out k (GClip.t xs[k]) (by rw [List.getElem?_map, List.getElem?_eq_getElem hlt]; rfl)
        obtain ⟨b2, o2, cs2, rfl, hbw2, hcs2, hcell2⟩ := HX2.out k (GClip.t ys[k]) (by rw [List.getElem?_map, List.getElem?_eq_getElem hlt2]; rfl)
        have hg1 := List.getElem?_eq_getElem hlt
        have hg2 := List.getElem?_eq_getElem hlt2
        generalize xs[k] = x at *
        generalize ys[k] = y at *
        have HG1 := hide hg1; have HG2 := hide hg2; clear hg1 hg2
        obtain rfl := GClip.rd_open (show T.rds _ _ _ by simpa only [GClip.t, T.rd] using hcs1)
        have d0 := (HB.out.cell hbw1).trans (hcell1 0 _ rfl)
        rw [show o1 + (k * 5 + 0) = o1 + k * 5 by omega] at d0
        have d1 := (HB.out.cell hbw1).trans (hcell1 1 _ rfl)
        rw [show o1 + (k * 5 + 1) = o1 + k * 5 + 1 by omega] at d1
        have d2 := (HB.out.cell hbw1).trans (hcell1 2 _ rfl)
        rw [show o1 + (k * 5 + 2) = o1 + k * 5 + 2 by omega] at d2
        have d3 := (HB.out.cell hbw1).trans (hcell1 3 _ rfl)
        rw [show o1 + (k * 5 + 3) = o1 + k * 5 + 3 by omega] at d3
        have d4 := (HB.out.cell hbw1).trans (hcell1 4 _ rfl)
        rw [show o1 + (k * 5 + 4) = o1 + k * 5 + 4 by omega] at d4
        have hq1 : b1 < wr.heap.size := Nat.lt_of_lt_of_le hbw1 HB.out.size
        obtain rfl := GClip.rd_open (show T.rds _ _ _ by simpa only [GClip.t, T.rd] using hcs2)
        have g0 := (HB.out.cell hbw2).trans (hcell2 0 _ rfl)
        rw [show o2 + (k * 5 + 0) = o2 + k * 5 by omega] at g0
        have g1 := (HB.out.cell hbw2).trans (hcell2 1 _ rfl)
        rw [show o2 + (k * 5 + 1) = o2 + k * 5 + 1 by omega] at g1
        have g2 := (HB.out.cell hbw2).trans (hcell2 2 _ rfl)
        rw [show o2 + (k * 5 + 2) = o2 + k * 5 + 2 by omega] at g2
        have g3 := (HB.out.cell hbw2).trans (hcell2 3 _ rfl)
        rw [show o2 + (k * 5 + 3) = o2 + k * 5 + 3 by omega] at g3
        have g4 := (HB.out.cell hbw2).trans (hcell2 4 _ rfl)
        rw [show o2 + (k * 5 + 4) = o2 + k * 5 + 4 by omega] at g4
        have hq2 : b2 < wr.heap.size := Nat.lt_of_lt_of_le hbw2 HB.out.size
        clear hcs1 hcs2 hcell1 hcell2
        have heq : ∀ w, (Op.equalIn 10000 90 (.agg #[.int .i64 x.fSource, .int .i64 x.fFrom, .int .i64 x.fLength, .int .i64 x.fAt, .int .i64 x.fGain]) (.agg #[.int .i64 y.fSource, .int .i64 y.fFrom, .int .i64 y.fLength, .int .i64 y.fAt, .int .i64 y.fGain])).run Tryz.prog w = .ok (decide (x = y)) w := eq_Clip 9998 x y
        have hW := HW.out
        have hB := HB.out
        by_cases he : x = y
        · have hde : decide (x = y) = true := decide_eq_true he
          rw [hde] at heq
          have HE := hide he; clear he hde
          go_wp2
          go_quiet (fail)
          go_wp2
          go_roundw
          case rel => exact ⟨k + 1, by omega, by go_num, takes_succ HS.out HG1.out (by rw [HE.out]; exact HG2.out), (by repeat (first | with_reducible exact Below.refl _ _ | with_reducible assumption | with_reducible refine Below.setCell ?_ (by first | omega | (simp; done) | (simp; omega)) _ | with_reducible refine Below.alloc ?_ (by first | omega | (simp; done) | (simp; omega)) _ | with_reducible refine Below.drew ?_ | with_reducible refine below_drewN ?_ _ | exact Below.refl _ _ | assumption | refine Below.drew ?_ | refine below_drewN ?_ _ | refine Below.alloc ?_ (by first | omega | (simp; done) | (simp; omega)) _ | refine Below.setCell ?_ (by first | omega | (simp; done) | (simp; omega)) _))⟩
          case measure => simp [intOf]; omega
        · have hde : decide (x = y) = false := decide_eq_false he
          rw [hde] at heq
          have HE := hide he; clear he hde
          go_wp2
          go_quiet (fail)
          go_wp2
          go_ret
          exact ⟨ret_bool (by rw [decide_eq_false]; intro e; injection e with e; exact ne_at HG1.out HG2.out HE.out e), (by repeat (first | with_reducible exact Below.refl _ _ | with_reducible assumption | with_reducible refine Below.setCell ?_ (by first | omega | (simp; done) | (simp; omega)) _ | with_reducible refine Below.alloc ?_ (by first | omega | (simp; done) | (simp; omega)) _ | with_reducible refine Below.drew ?_ | with_reducible refine below_drewN ?_ _ | exact Below.refl _ _ | assumption | refine Below.drew ?_ | refine below_drewN ?_ _ | refine Below.alloc ?_ (by first | omega | (simp; done) | (simp; omega)) _ | refine Below.setCell ?_ (by first | omega | (simp; done) | (simp; omega)) _))⟩
      · go_wp2
        go_ret
        exact ⟨ret_bool (by rw [decide_eq_true]; rw [eq_of_takes (k := k) (by omega) HL.out HS.out]), HB.out⟩
  · have hb : ((xs.length : Int) != (ys.length : Int)) = true := by simp; omega
    have hne : xs ≠ ys := fun e => hll (by rw [e])
    have HN := hide hne; clear hll hne
    go_enter Tryz.func90, Tryz.ntmps90
    go_wp2
    go_ret
    exact ⟨ret_bool (by rw [decide_eq_false]; intro e; injection e with e; exact HN.out e), (by repeat (first | with_reducible exact Below.refl _ _ | with_reducible assumption | with_reducible refine Below.setCell ?_ (by first | omega | (simp; done) | (simp; omega)) _ | with_reducible refine Below.alloc ?_ (by first | omega | (simp; done) | (simp; omega)) _ | with_reducible refine Below.drew ?_ | with_reducible refine below_drewN ?_ _ | exact Below.refl _ _ | assumption | refine Below.drew ?_ | refine below_drewN ?_ _ | refine Below.alloc ?_ (by first | omega | (simp; done) | (simp; omega)) _ | refine Below.setCell ?_ (by first | omega | (simp; done) | (simp; omega)) _))⟩
set_option maxHeartbeats 1000000 in
theorem c_iSameTempos (a b : GTempoMap) (v u : Value) (w : World) (hr : T.rd w (T.sl 185 3 (a.fTempos.map GTempo.t)) [v]) (ht : T.rd w (T.sl 185 3 (b.fTempos.map GTempo.t)) [u]) :
    Calls Tryz.prog 62 #[.agg #[v], .agg #[u]] w fun e w' => e = .returned (.bool (decide (a = b))) ∧ Below w.heap.size w w' := by
  obtain ⟨xs⟩ := a
  obtain ⟨ys⟩ := b
  simp only at hr ht
  obtain ⟨A1, cap1, rfl, hl1, hc1, hx1⟩ := T.rd_open hr
  obtain ⟨A2, cap2, rfl, hl2, hc2, hx2⟩ := T.rd_open ht
  rw [List.length_map] at hl1 hl2 ⊢
  rw [List.length_map]
  have HX1 := hide hx1; have HX2 := hide hx2; clear hx1 hx2 hr ht
  by_cases hll : xs.length = ys.length
  · have hb : ((xs.length : Int) != (ys.length : Int)) = false := by simp [hll]
    have HL := hide hll; clear hll
    have hgd := eqg_Tempo
    go_enter Tryz.func62, Tryz.ntmps62
    have HB0 := hide (show Below w.heap.size w ((w.alloc (.cells #[(.slice A1 xs.length cap1)] 51)).alloc (.cells #[(.slice A2 ys.length cap2)] 51)) from ((Below.refl _ _).alloc (Nat.le_refl _) _).alloc (by first | (simp; done) | (simp; omega) | omega) _)
    have HKA := hide ((Bk.born w 51 #[(.slice A1 xs.length cap1)]).alloc (.cells #[(.slice A2 ys.length cap2)] 51))
    have HKB := hide (Bk.born1' w (.cells #[(.slice A1 xs.length cap1)] 51) 51 #[(.slice A2 ys.length cap2)])
    go_wp2
    go_loopw [17] (fun i wr => ∃ k : Nat, k ≤ xs.length ∧ i = .int .i64 k ∧ xs.take k = ys.take k ∧ Below (w.heap.size + 2) ((w.alloc (.cells #[(.slice A1 xs.length cap1)] 51)).alloc (.cells #[(.slice A2 ys.length cap2)] 51)) wr) (fun i _ => xs.length - (intOf i).toNat)
    case atStart => exact ⟨0, Nat.zero_le _, rfl, rfl, Below.refl _ _⟩
    case round =>
      obtain ⟨k, hk, rfl, hs, hbw⟩ := hrel
      have HS := hide hs; have HW := hide hbw; have hsz := hbw.size; clear hs hbw
      have hsz2 : w.heap.size + 2 ≤ wr.heap.size := by simpa using hsz
      clear hsz
      have HB := hide (show Below w.heap.size w wr from bthen HB0.out (by first | (simp; done) | (simp; omega) | omega) (HW.out.mono (by first | (simp; done) | (simp; omega) | omega)))
      have ka := (HKA.out.below HW.out (by first | (simp; done) | (simp; omega) | omega)).cell; have kb := (HKB.out.below HW.out (by first | (simp; done) | (simp; omega) | omega)).cell
      have la : w.heap.size < wr.heap.size := by omega
      have lb : w.heap.size + 1 < wr.heap.size := by omega
      by_cases hlt : k < xs.length
      · have hlt2 : k < ys.length := by have := HL.out; omega
        obtain ⟨b1, o1, cs1, rfl, hbw1, hcs1, hcell1⟩ := HX1.out k (GTempo.t xs[k]) (by rw [List.getElem?_map, List.getElem?_eq_getElem hlt]; rfl)
        obtain ⟨b2, o2, cs2, rfl, hbw2, hcs2, hcell2⟩ := HX2.out k (GTempo.t ys[k]) (by rw [List.getElem?_map, List.getElem?_eq_getElem hlt2]; rfl)
        have hg1 := List.getElem?_eq_getElem hlt
        have hg2 := List.getElem?_eq_getElem hlt2
        generalize xs[k] = x at *
        generalize ys[k] = y at *
        have HG1 := hide hg1; have HG2 := hide hg2; clear hg1 hg2
        obtain rfl := GTempo.rd_open (show T.rds _ _ _ by simpa only [GTempo.t, T.rd] using hcs1)
        have d0 := (HB.out.cell hbw1).trans (hcell1 0 _ rfl)
        rw [show o1 + (k * 3 + 0) = o1 + k * 3 by omega] at d0
        have d1 := (HB.out.cell hbw1).trans (hcell1 1 _ rfl)
        rw [show o1 + (k * 3 + 1) = o1 + k * 3 + 1 by omega] at d1
        have d2 := (HB.out.cell hbw1).trans (hcell1 2 _ rfl)
        rw [show o1 + (k * 3 + 2) = o1 + k * 3 + 2 by omega] at d2
        have hq1 : b1 < wr.heap.size := Nat.lt_of_lt_of_le hbw1 HB.out.size
        obtain rfl := GTempo.rd_open (show T.rds _ _ _ by simpa only [GTempo.t, T.rd] using hcs2)
        have g0 := (HB.out.cell hbw2).trans (hcell2 0 _ rfl)
        rw [show o2 + (k * 3 + 0) = o2 + k * 3 by omega] at g0
        have g1 := (HB.out.cell hbw2).trans (hcell2 1 _ rfl)
        rw [show o2 + (k * 3 + 1) = o2 + k * 3 + 1 by omega] at g1
        have g2 := (HB.out.cell hbw2).trans (hcell2 2 _ rfl)
        rw [show o2 + (k * 3 + 2) = o2 + k * 3 + 2 by omega] at g2
        have hq2 : b2 < wr.heap.size := Nat.lt_of_lt_of_le hbw2 HB.out.size
        clear hcs1 hcs2 hcell1 hcell2
        have heq : ∀ w, (Op.equalIn 10000 185 (.agg #[.int .i64 x.fBeat.fNum, .int .i64 x.fBeat.fDen, .int .i64 x.fSamples]) (.agg #[.int .i64 y.fBeat.fNum, .int .i64 y.fBeat.fDen, .int .i64 y.fSamples])).run Tryz.prog w = .ok (decide (x = y)) w := eq_Tempo 9997 x y
        have hW := HW.out
        have hB := HB.out
        by_cases he : x = y
        · have hde : decide (x = y) = true := decide_eq_true he
          rw [hde] at heq
          have HE := hide he; clear he hde
          go_wp2
          go_quiet (fail)
          go_wp2
          go_roundw
          case rel => exact ⟨k + 1, by omega, by go_num, takes_succ HS.out HG1.out (by rw [HE.out]; exact HG2.out), (by repeat (first | with_reducible exact Below.refl _ _ | with_reducible assumption | with_reducible refine Below.setCell ?_ (by first | omega | (simp; done) | (simp; omega)) _ | with_reducible refine Below.alloc ?_ (by first | omega | (simp; done) | (simp; omega)) _ | with_reducible refine Below.drew ?_ | with_reducible refine below_drewN ?_ _ | exact Below.refl _ _ | assumption | refine Below.drew ?_ | refine below_drewN ?_ _ | refine Below.alloc ?_ (by first | omega | (simp; done) | (simp; omega)) _ | refine Below.setCell ?_ (by first | omega | (simp; done) | (simp; omega)) _))⟩
          case measure => simp [intOf]; omega
        · have hde : decide (x = y) = false := decide_eq_false he
          rw [hde] at heq
          have HE := hide he; clear he hde
          go_wp2
          go_quiet (fail)
          go_wp2
          go_ret
          exact ⟨ret_bool (by rw [decide_eq_false]; intro e; injection e with e; exact ne_at HG1.out HG2.out HE.out e), (by repeat (first | with_reducible exact Below.refl _ _ | with_reducible assumption | with_reducible refine Below.setCell ?_ (by first | omega | (simp; done) | (simp; omega)) _ | with_reducible refine Below.alloc ?_ (by first | omega | (simp; done) | (simp; omega)) _ | with_reducible refine Below.drew ?_ | with_reducible refine below_drewN ?_ _ | exact Below.refl _ _ | assumption | refine Below.drew ?_ | refine below_drewN ?_ _ | refine Below.alloc ?_ (by first | omega | (simp; done) | (simp; omega)) _ | refine Below.setCell ?_ (by first | omega | (simp; done) | (simp; omega)) _))⟩
      · go_wp2
        go_ret
        exact ⟨ret_bool (by rw [decide_eq_true]; rw [eq_of_takes (k := k) (by omega) HL.out HS.out]), HB.out⟩
  · have hb : ((xs.length : Int) != (ys.length : Int)) = true := by simp; omega
    have hne : xs ≠ ys := fun e => hll (by rw [e])
    have HN := hide hne; clear hll hne
    go_enter Tryz.func62, Tryz.ntmps62
    go_wp2
    go_ret
    exact ⟨ret_bool (by rw [decide_eq_false]; intro e; injection e with e; exact HN.out e), (by repeat (first | with_reducible exact Below.refl _ _ | with_reducible assumption | with_reducible refine Below.setCell ?_ (by first | omega | (simp; done) | (simp; omega)) _ | with_reducible refine Below.alloc ?_ (by first | omega | (simp; done) | (simp; omega)) _ | with_reducible refine Below.drew ?_ | with_reducible refine below_drewN ?_ _ | exact Below.refl _ _ | assumption | refine Below.drew ?_ | refine below_drewN ?_ _ | refine Below.alloc ?_ (by first | omega | (simp; done) | (simp; omega)) _ | refine Below.setCell ?_ (by first | omega | (simp; done) | (simp; omega)) _))⟩
set_option maxHeartbeats 1000000 in
theorem c_same (v u : Value) (xs ys : List Int) (w : World) (hr1 : RdI w v xs) (hr2 : RdI w u ys) : Calls Tryz.prog 64 #[v, u] w fun e w' => e = .returned (.bool (decide (xs = ys))) ∧ Dr w w' := by
  obtain ⟨A1, cap1, rfl, hl1, hc1, hx1⟩ := hr1.open_
  obtain ⟨A2, cap2, rfl, hl2, hc2, hx2⟩ := hr2.open_
  have HX1 := hide hx1; have HX2 := hide hx2; clear hx1 hx2 hr1 hr2
  by_cases hll : xs.length = ys.length
  · have hb : ((xs.length : Int) != (ys.length : Int)) = false := by simp [hll]
    have HL := hide hll; clear hll
    go_enter Tryz.func64, Tryz.ntmps64
    go_wp2
    go_loopw [14] (fun i wr => ∃ k : Nat, k ≤ xs.length ∧ i = .int .i64 k ∧ xs.take k = ys.take k ∧ Dr w wr) (fun i _ => xs.length - (intOf i).toNat)
    case atStart => exact ⟨0, Nat.zero_le _, rfl, rfl, Dr.refl _⟩
    case round =>
      obtain ⟨k, hk, rfl, hs, nr, rfl⟩ := hrel
      have HS := hide hs; clear hs
      by_cases hlt : k < xs.length
      · have hlt2 : k < ys.length := by have := HL.out; omega
        obtain ⟨b1, off1, rfl, hb1, hcell1⟩ := HX1.out k xs[k] (List.getElem?_eq_getElem hlt)
        obtain ⟨b2, off2, rfl, hb2, hcell2⟩ := HX2.out k ys[k] (List.getElem?_eq_getElem hlt2)
        by_cases he : xs[k] = ys[k]
        · have hd : (xs[k] != ys[k]) = false := by simp [he]
          have HE := hide he; clear he
          go_wp2
          go_roundw
          case rel => exact ⟨k + 1, by omega, by go_num, takes_succ HS.out (List.getElem?_eq_getElem hlt) (by rw [HE.out]; exact List.getElem?_eq_getElem hlt2), (by repeat (first | exact Dr.refl _ | exact ⟨_, rfl⟩ | refine Dr.drewN ?_ _ | refine Dr.drew ?_))⟩
          case measure => simp [intOf]; omega
        · have hd : (xs[k] != ys[k]) = true := by simp [he]
          have HE := hide he; clear he
          go_wp2
          go_ret
          exact ⟨by simp [ne_at (List.getElem?_eq_getElem hlt) (List.getElem?_eq_getElem hlt2) HE.out], (by repeat (first | exact Dr.refl _ | exact ⟨_, rfl⟩ | refine Dr.drewN ?_ _ | refine Dr.drew ?_))⟩
      · go_wp2
        go_ret
        exact ⟨by simp [eq_of_takes (k := k) (by omega) HL.out HS.out], (by repeat (first | exact Dr.refl _ | exact ⟨_, rfl⟩ | refine Dr.drewN ?_ _ | refine Dr.drew ?_))⟩
  · have hb : ((xs.length : Int) != (ys.length : Int)) = true := by simp; omega
    have hne : xs ≠ ys := fun e => hll (by rw [e])
    have HN := hide hne; clear hll hne
    go_enter Tryz.func64, Tryz.ntmps64
    go_wp2
    go_ret
    exact ⟨by simp [HN.out], Dr.refl _⟩
set_option maxHeartbeats 1000000 in
theorem c_l00Same (v u : Value) (xs ys : List Int) (w : World) (hr1 : RdI w v xs) (hr2 : RdI w u ys) : Calls Tryz.prog 56 #[v, u] w fun e w' => e = .returned (.bool (decide (xs = ys))) ∧ Dr w w' := by
  obtain ⟨A1, cap1, rfl, hl1, hc1, hx1⟩ := hr1.open_
  obtain ⟨A2, cap2, rfl, hl2, hc2, hx2⟩ := hr2.open_
  have HX1 := hide hx1; have HX2 := hide hx2; clear hx1 hx2 hr1 hr2
  by_cases hll : xs.length = ys.length
  · have hb : ((xs.length : Int) != (ys.length : Int)) = false := by simp [hll]
    have HL := hide hll; clear hll
    go_enter Tryz.func56, Tryz.ntmps56
    go_wp2
    go_loopw [5] (fun i wr => ∃ k : Nat, k ≤ xs.length ∧ i = .int .i64 k ∧ xs.take k = ys.take k ∧ Dr w wr) (fun i _ => xs.length - (intOf i).toNat)
    case atStart => exact ⟨0, Nat.zero_le _, rfl, rfl, Dr.refl _⟩
    case round =>
      obtain ⟨k, hk, rfl, hs, nr, rfl⟩ := hrel
      have HS := hide hs; clear hs
      by_cases hlt : k < xs.length
      · have hlt2 : k < ys.length := by have := HL.out; omega
        obtain ⟨b1, off1, rfl, hb1, hcell1⟩ := HX1.out k xs[k] (List.getElem?_eq_getElem hlt)
        obtain ⟨b2, off2, rfl, hb2, hcell2⟩ := HX2.out k ys[k] (List.getElem?_eq_getElem hlt2)
        by_cases he : xs[k] = ys[k]
        · have hd : (xs[k] != ys[k]) = false := by simp [he]
          have HE := hide he; clear he
          go_wp2
          go_quiet (fail)
          go_wp2
          go_roundw
          case rel => exact ⟨k + 1, by omega, by go_num, takes_succ HS.out (List.getElem?_eq_getElem hlt) (by rw [HE.out]; exact List.getElem?_eq_getElem hlt2), (by repeat (first | exact Dr.refl _ | exact ⟨_, rfl⟩ | refine Dr.drewN ?_ _ | refine Dr.drew ?_))⟩
          case measure => simp [intOf]; omega
        · have hd : (xs[k] != ys[k]) = true := by simp [he]
          have HE := hide he; clear he
          go_wp2
          go_quiet (fail)
          go_wp2
          go_ret
          exact ⟨by simp [ne_at (List.getElem?_eq_getElem hlt) (List.getElem?_eq_getElem hlt2) HE.out], (by repeat (first | exact Dr.refl _ | exact ⟨_, rfl⟩ | refine Dr.drewN ?_ _ | refine Dr.drew ?_))⟩
      · go_wp2
        go_ret
        exact ⟨by simp [eq_of_takes (k := k) (by omega) HL.out HS.out], (by repeat (first | exact Dr.refl _ | exact ⟨_, rfl⟩ | refine Dr.drewN ?_ _ | refine Dr.drew ?_))⟩
  · have hb : ((xs.length : Int) != (ys.length : Int)) = true := by simp; omega
    have hne : xs ≠ ys := fun e => hll (by rw [e])
    have HN := hide hne; clear hll hne
    go_enter Tryz.func56, Tryz.ntmps56
    go_wp2
    go_ret
    exact ⟨by simp [HN.out], Dr.refl _⟩
set_option maxHeartbeats 1000000 in
theorem c_sameAll (v u : Value) (xs ys : List (List Int)) (w : World) (hr : T.rd w (T.sl 33 1 (xs.map (T.ints 2))) [v]) (ht : T.rd w (T.sl 33 1 (ys.map (T.ints 2))) [u]) :
    Calls Tryz.prog 127 #[v, u] w fun e w' => e = .returned (.bool (decide (xs = ys))) ∧ Dr w w' := by
  obtain ⟨A1, cap1, rfl, hl1, hc1, hx1⟩ := T.rd_open hr
  obtain ⟨A2, cap2, rfl, hl2, hc2, hx2⟩ := T.rd_open ht
  rw [List.length_map] at hl1 hl2 ⊢
  rw [List.length_map]
  have HX1 := hide hx1; have HX2 := hide hx2; clear hx1 hx2 hr ht
  by_cases hll : xs.length = ys.length
  · have hb : ((xs.length : Int) != (ys.length : Int)) = false := by simp [hll]
    have HL := hide hll; clear hll
    go_enter Tryz.func127, Tryz.ntmps127
    go_wp2
    go_loopw [14] (fun i wr => ∃ k : Nat, k ≤ xs.length ∧ i = .int .i64 k ∧ xs.take k = ys.take k ∧ Dr w wr) (fun i _ => xs.length - (intOf i).toNat)
    case atStart => exact ⟨0, Nat.zero_le _, rfl, rfl, Dr.refl _⟩
    case round =>
      obtain ⟨k, hk, rfl, hs, nr, rfl⟩ := hrel
      have HS := hide hs; clear hs
      by_cases hlt : k < xs.length
      · have hlt2 : k < ys.length := by have := HL.out; omega
        obtain ⟨b1, o1, cs1, rfl, hb1, hcs1, hcell1⟩ := HX1.out k (T.ints 2 xs[k]) (by rw [List.getElem?_map, List.getElem?_eq_getElem hlt]; rfl)
        obtain ⟨b2, o2, cs2, rfl, hb2, hcs2, hcell2⟩ := HX2.out k (T.ints 2 ys[k]) (by rw [List.getElem?_map, List.getElem?_eq_getElem hlt2]; rfl)
        have hg1 := List.getElem?_eq_getElem hlt
        have hg2 := List.getElem?_eq_getElem hlt2
        generalize xs[k] = x at *
        generalize ys[k] = y at *
        have HG1 := hide hg1; have HG2 := hide hg2; clear hg1 hg2
        obtain ⟨v3, rfl⟩ := T.rd_one hcs1
        obtain ⟨v4, rfl⟩ := T.rd_one hcs2
        have d0 := hcell1 0 v3 rfl
        have g0 := hcell2 0 v4 rfl
        rw [Nat.mul_one, Nat.add_zero] at d0 g0
        have R1 := hide (show RdI (w.drewN nr) v3 x from Rd.drewN (T.rd_ints.1 hcs1) nr); have R2 := hide (show RdI (w.drewN nr) v4 y from Rd.drewN (T.rd_ints.1 hcs2) nr)
        clear hcs1 hcs2 hcell1 hcell2
        by_cases he : x = y
        · have hde : decide (x = y) = true := decide_eq_true he
          have HE := hide he; clear he
          go_wp2_with (go_at_call 64; refine (c_same _ _ x y _ R1.out R2.out).mono ?_; rintro e w3 ⟨rfl, hd3⟩; rw [hde])
          go_roundw
          case rel => exact ⟨k + 1, by omega, by go_num, takes_succ HS.out HG1.out (by rw [HE.out]; exact HG2.out), (Dr.drewN (Dr.refl _) _).trans hd3⟩
          case measure => simp [intOf]; omega
        · have hde : decide (x = y) = false := decide_eq_false he
          have HE := hide he; clear he
          go_wp2_with (go_at_call 64; refine (c_same _ _ x y _ R1.out R2.out).mono ?_; rintro e w3 ⟨rfl, hd3⟩; rw [hde])
          go_ret
          exact ⟨by simp [ne_at HG1.out HG2.out HE.out], (Dr.drewN (Dr.refl _) _).trans hd3⟩
      · go_wp2
        go_ret
        exact ⟨by simp [eq_of_takes (k := k) (by omega) HL.out HS.out], (by repeat (first | exact Dr.refl _ | exact ⟨_, rfl⟩ | refine Dr.drewN ?_ _ | refine Dr.drew ?_))⟩
  · have hb : ((xs.length : Int) != (ys.length : Int)) = true := by simp; omega
    have hne : xs ≠ ys := fun e => hll (by rw [e])
    have HN := hide hne; clear hll hne
    go_enter Tryz.func127, Tryz.ntmps127
    go_wp2
    go_ret
    exact ⟨by simp [HN.out], Dr.refl _⟩
set_option maxHeartbeats 1000000 in
set_option maxRecDepth 20000 in
theorem c_iSameNode (a b : GNode) (v3 : Value) (u3 : Value) (w : World) (r3 : T.rd w (T.ints 2 a.fFrom) [v3]) (t3 : T.rd w (T.ints 2 b.fFrom) [u3]) :
    Calls Tryz.prog 202 #[.agg #[.int .i64 a.fKind, .int .i64 a.fA, .int .i64 a.fB, v3], .agg #[.int .i64 b.fKind, .int .i64 b.fA, .int .i64 b.fB, u3]] w fun e w' => e = .returned (.bool (decide (a = b))) ∧ Below w.heap.size w w' := by
  have hab : decide (a = b) = (decide (a.fKind = b.fKind) && (decide (a.fA = b.fA) && (decide (a.fB = b.fB) && (decide (a.fFrom = b.fFrom))))) := by
    obtain ⟨x0, x1, x2, x3⟩ := a
    obtain ⟨y0, y1, y2, y3⟩ := b
    rw [Bool.eq_iff_iff]
    simp only [GNode.mk.injEq, decide_eq_true_eq, Bool.and_eq_true]
    try (constructor <;> (intro h; simp [h]))
  have R3 := hide r3; have Q3 := hide t3
  obtain ⟨va3, vl3, vc3, rfl⟩ := T.rd_slice r3
  obtain ⟨ua3, ul3, uc3, rfl⟩ := T.rd_slice t3
  clear r3 t3
  have HAB := hide hab; clear hab
  have HB0 := hide (show Below w.heap.size w ((w.alloc (.cells #[.int .i64 a.fKind, .int .i64 a.fA, .int .i64 a.fB, (.slice va3 vl3 vc3)] 228)).alloc (.cells #[.int .i64 b.fKind, .int .i64 b.fA, .int .i64 b.fB, (.slice ua3 ul3 uc3)] 228)) from ((Below.refl _ _).alloc (Nat.le_refl _) _).alloc (by first | (simp; done) | (simp; omega) | omega) _)
  have HKA0 := hide ((Bk.born w 228 #[.int .i64 a.fKind, .int .i64 a.fA, .int .i64 a.fB, (.slice va3 vl3 vc3)]).alloc (.cells #[.int .i64 b.fKind, .int .i64 b.fA, .int .i64 b.fB, (.slice ua3 ul3 uc3)] 228))
  have HKB0 := hide (Bk.born1' w (.cells #[.int .i64 a.fKind, .int .i64 a.fA, .int .i64 a.fB, (.slice va3 vl3 vc3)] 228) 228 #[.int .i64 b.fKind, .int .i64 b.fA, .int .i64 b.fB, (.slice ua3 ul3 uc3)])
  by_cases h0 : a.fKind = b.fKind
  · have e0 : (a.fKind == b.fKind) = true := by simp [h0]
    have H0 := hide h0; clear h0
    by_cases h1 : a.fA = b.fA
    · have e1 : (a.fA == b.fA) = true := by simp [h1]
      have H1 := hide h1; clear h1
      by_cases h2 : a.fB = b.fB
      · have e2 : (a.fB == b.fB) = true := by simp [h2]
        have H2 := hide h2; clear h2
        by_cases h3 : a.fFrom = b.fFrom
        · have c3 : decide (a.fFrom = b.fFrom) = true := by simp [h3]
          have H3 := hide h3; clear h3
          go_enter Tryz.func202, Tryz.ntmps202
          go_wp2_with fail
          refine (c_same _ _ a.fFrom b.fFrom _ (T.rd_ints.1 (T.rd_below R3.out HB0.out)) (T.rd_ints.1 (T.rd_below Q3.out HB0.out))).mono ?_; rintro e w1 ⟨rfl, hd⟩; rw [c3]
          have hb : Below (((w.alloc (.cells #[.int .i64 a.fKind, .int .i64 a.fA, .int .i64 a.fB, (.slice va3 vl3 vc3)] 228)).alloc (.cells #[.int .i64 b.fKind, .int .i64 b.fA, .int .i64 b.fB, (.slice ua3 ul3 uc3)] 228))).heap.size ((w.alloc (.cells #[.int .i64 a.fKind, .int .i64 a.fA, .int .i64 a.fB, (.slice va3 vl3 vc3)] 228)).alloc (.cells #[.int .i64 b.fKind, .int .i64 b.fA, .int .i64 b.fB, (.slice ua3 ul3 uc3)] 228)) w1 := by first | exact hd.to_below _ | exact hd
          have HKA1 := hide (HKA0.out.below hb HKA0.out.lt); have HKB1 := hide (HKB0.out.below hb HKB0.out.lt); have HB1 := hide (bthen HB0.out HB0.out.size hb); clear hb hd
          have ka1 := HKA1.out.cell; have kb1 := HKB1.out.cell
          go_wp2
          go_ret
          exact ⟨ret_bool (by rw [HAB.out]; simp [H0.out, H1.out, H2.out, H3.out]), HB1.out⟩
        · have c3 : decide (a.fFrom = b.fFrom) = false := by simp [h3]
          have H3 := hide h3; clear h3
          go_enter Tryz.func202, Tryz.ntmps202
          go_wp2_with fail
          refine (c_same _ _ a.fFrom b.fFrom _ (T.rd_ints.1 (T.rd_below R3.out HB0.out)) (T.rd_ints.1 (T.rd_below Q3.out HB0.out))).mono ?_; rintro e w1 ⟨rfl, hd⟩; rw [c3]
          have hb : Below (((w.alloc (.cells #[.int .i64 a.fKind, .int .i64 a.fA, .int .i64 a.fB, (.slice va3 vl3 vc3)] 228)).alloc (.cells #[.int .i64 b.fKind, .int .i64 b.fA, .int .i64 b.fB, (.slice ua3 ul3 uc3)] 228))).heap.size ((w.alloc (.cells #[.int .i64 a.fKind, .int .i64 a.fA, .int .i64 a.fB, (.slice va3 vl3 vc3)] 228)).alloc (.cells #[.int .i64 b.fKind, .int .i64 b.fA, .int .i64 b.fB, (.slice ua3 ul3 uc3)] 228)) w1 := by first | exact hd.to_below _ | exact hd
          have HKA1 := hide (HKA0.out.below hb HKA0.out.lt); have HKB1 := hide (HKB0.out.below hb HKB0.out.lt); have HB1 := hide (bthen HB0.out HB0.out.size hb); clear hb hd
          have ka1 := HKA1.out.cell; have kb1 := HKB1.out.cell
          go_wp2
          go_ret
          exact ⟨ret_bool (by rw [HAB.out]; simp [H0.out, H1.out, H2.out, H3.out]), HB1.out⟩
      · have e2 : (a.fB == b.fB) = false := by simp [h2]
        have H2 := hide h2; clear h2
        go_enter Tryz.func202, Tryz.ntmps202
        go_wp2
        go_ret
        exact ⟨ret_bool (by rw [HAB.out]; simp [H0.out, H1.out, H2.out]), HB0.out⟩
    · have e1 : (a.fA == b.fA) = false := by simp [h1]
      have H1 := hide h1; clear h1
      go_enter Tryz.func202, Tryz.ntmps202
      go_wp2
      go_ret
      exact ⟨ret_bool (by rw [HAB.out]; simp [H0.out, H1.out]), HB0.out⟩
  · have e0 : (a.fKind == b.fKind) = false := by simp [h0]
    have H0 := hide h0; clear h0
    go_enter Tryz.func202, Tryz.ntmps202
    go_wp2
    go_ret
    exact ⟨ret_bool (by rw [HAB.out]; simp [H0.out]), HB0.out⟩
set_option maxHeartbeats 1000000 in
set_option maxRecDepth 20000 in
theorem c_iSameTuning (a b : GTuning) (v4 : Value) (u4 : Value) (w : World) (r4 : T.rd w (T.sl 52 2 (a.fRatios.map GFrac.t)) [v4]) (t4 : T.rd w (T.sl 52 2 (b.fRatios.map GFrac.t)) [u4]) :
    Calls Tryz.prog 63 #[.agg #[.int .i64 a.fBase.fNum, .int .i64 a.fBase.fDen, .int .i64 a.fOctave.fNum, .int .i64 a.fOctave.fDen, v4], .agg #[.int .i64 b.fBase.fNum, .int .i64 b.fBase.fDen, .int .i64 b.fOctave.fNum, .int .i64 b.fOctave.fDen, u4]] w fun e w' => e = .returned (.bool (decide (a = b))) ∧ Below w.heap.size w w' := by
  have hab : decide (a = b) = (decide (a.fBase = b.fBase) && (decide (a.fOctave = b.fOctave) && (decide (a.fRatios = b.fRatios)))) := by
    obtain ⟨x0, x1, x2⟩ := a
    obtain ⟨y0, y1, y2⟩ := b
    rw [Bool.eq_iff_iff]
    simp only [GTuning.mk.injEq, decide_eq_true_eq, Bool.and_eq_true]
    try (constructor <;> (intro h; simp [h]))
  have R4 := hide r4; have Q4 := hide t4
  obtain ⟨va4, vl4, vc4, rfl⟩ := T.rd_slice r4
  obtain ⟨ua4, ul4, uc4, rfl⟩ := T.rd_slice t4
  clear r4 t4
  have HAB := hide hab; clear hab
  have HB0 := hide (show Below w.heap.size w ((w.alloc (.cells #[.int .i64 a.fBase.fNum, .int .i64 a.fBase.fDen, .int .i64 a.fOctave.fNum, .int .i64 a.fOctave.fDen, (.slice va4 vl4 vc4)] 55)).alloc (.cells #[.int .i64 b.fBase.fNum, .int .i64 b.fBase.fDen, .int .i64 b.fOctave.fNum, .int .i64 b.fOctave.fDen, (.slice ua4 ul4 uc4)] 55)) from ((Below.refl _ _).alloc (Nat.le_refl _) _).alloc (by first | (simp; done) | (simp; omega) | omega) _)
  have HKA0 := hide ((Bk.born w 55 #[.int .i64 a.fBase.fNum, .int .i64 a.fBase.fDen, .int .i64 a.fOctave.fNum, .int .i64 a.fOctave.fDen, (.slice va4 vl4 vc4)]).alloc (.cells #[.int .i64 b.fBase.fNum, .int .i64 b.fBase.fDen, .int .i64 b.fOctave.fNum, .int .i64 b.fOctave.fDen, (.slice ua4 ul4 uc4)] 55))
  have HKB0 := hide (Bk.born1' w (.cells #[.int .i64 a.fBase.fNum, .int .i64 a.fBase.fDen, .int .i64 a.fOctave.fNum, .int .i64 a.fOctave.fDen, (.slice va4 vl4 vc4)] 55) 55 #[.int .i64 b.fBase.fNum, .int .i64 b.fBase.fDen, .int .i64 b.fOctave.fNum, .int .i64 b.fOctave.fDen, (.slice ua4 ul4 uc4)])
  have hgd := eqg_Frac
  by_cases h0 : a.fBase = b.fBase
  · have e0 : ∀ w, (Op.equalIn 10000 52 (.agg #[.int .i64 a.fBase.fNum, .int .i64 a.fBase.fDen]) (.agg #[.int .i64 b.fBase.fNum, .int .i64 b.fBase.fDen])).run Tryz.prog w = .ok true w := by have := eq_Frac 9998 a.fBase b.fBase; rwa [show decide (a.fBase = b.fBase) = true by simp [h0]] at this
    have H0 := hide h0; clear h0
    by_cases h1 : a.fOctave = b.fOctave
    · have e1 : ∀ w, (Op.equalIn 10000 52 (.agg #[.int .i64 a.fOctave.fNum, .int .i64 a.fOctave.fDen]) (.agg #[.int .i64 b.fOctave.fNum, .int .i64 b.fOctave.fDen])).run Tryz.prog w = .ok true w := by have := eq_Frac 9998 a.fOctave b.fOctave; rwa [show decide (a.fOctave = b.fOctave) = true by simp [h1]] at this
      have H1 := hide h1; clear h1
      by_cases h2 : a.fRatios = b.fRatios
      · have c2 : decide (a.fRatios = b.fRatios) = true := by simp [h2]
        have H2 := hide h2; clear h2
        go_enter Tryz.func63, Tryz.ntmps63
        go_wp2_with fail
        refine (c_slEqFrac _ _ a.fRatios b.fRatios _ (T.rd_below R4.out HB0.out) (T.rd_below Q4.out HB0.out)).mono ?_; rintro e w1 ⟨rfl, hd⟩; rw [c2]
        have hb : Below (((w.alloc (.cells #[.int .i64 a.fBase.fNum, .int .i64 a.fBase.fDen, .int .i64 a.fOctave.fNum, .int .i64 a.fOctave.fDen, (.slice va4 vl4 vc4)] 55)).alloc (.cells #[.int .i64 b.fBase.fNum, .int .i64 b.fBase.fDen, .int .i64 b.fOctave.fNum, .int .i64 b.fOctave.fDen, (.slice ua4 ul4 uc4)] 55))).heap.size ((w.alloc (.cells #[.int .i64 a.fBase.fNum, .int .i64 a.fBase.fDen, .int .i64 a.fOctave.fNum, .int .i64 a.fOctave.fDen, (.slice va4 vl4 vc4)] 55)).alloc (.cells #[.int .i64 b.fBase.fNum, .int .i64 b.fBase.fDen, .int .i64 b.fOctave.fNum, .int .i64 b.fOctave.fDen, (.slice ua4 ul4 uc4)] 55)) w1 := by first | exact hd.to_below _ | exact hd
        have HKA1 := hide (HKA0.out.below hb HKA0.out.lt); have HKB1 := hide (HKB0.out.below hb HKB0.out.lt); have HB1 := hide (bthen HB0.out HB0.out.size hb); clear hb hd
        have ka1 := HKA1.out.cell; have kb1 := HKB1.out.cell
        go_wp2
        go_ret
        exact ⟨ret_bool (by rw [HAB.out]; simp [H0.out, H1.out, H2.out]), HB1.out⟩
      · have c2 : decide (a.fRatios = b.fRatios) = false := by simp [h2]
        have H2 := hide h2; clear h2
        go_enter Tryz.func63, Tryz.ntmps63
        go_wp2_with fail
        refine (c_slEqFrac _ _ a.fRatios b.fRatios _ (T.rd_below R4.out HB0.out) (T.rd_below Q4.out HB0.out)).mono ?_; rintro e w1 ⟨rfl, hd⟩; rw [c2]
        have hb : Below (((w.alloc (.cells #[.int .i64 a.fBase.fNum, .int .i64 a.fBase.fDen, .int .i64 a.fOctave.fNum, .int .i64 a.fOctave.fDen, (.slice va4 vl4 vc4)] 55)).alloc (.cells #[.int .i64 b.fBase.fNum, .int .i64 b.fBase.fDen, .int .i64 b.fOctave.fNum, .int .i64 b.fOctave.fDen, (.slice ua4 ul4 uc4)] 55))).heap.size ((w.alloc (.cells #[.int .i64 a.fBase.fNum, .int .i64 a.fBase.fDen, .int .i64 a.fOctave.fNum, .int .i64 a.fOctave.fDen, (.slice va4 vl4 vc4)] 55)).alloc (.cells #[.int .i64 b.fBase.fNum, .int .i64 b.fBase.fDen, .int .i64 b.fOctave.fNum, .int .i64 b.fOctave.fDen, (.slice ua4 ul4 uc4)] 55)) w1 := by first | exact hd.to_below _ | exact hd
        have HKA1 := hide (HKA0.out.below hb HKA0.out.lt); have HKB1 := hide (HKB0.out.below hb HKB0.out.lt); have HB1 := hide (bthen HB0.out HB0.out.size hb); clear hb hd
        have ka1 := HKA1.out.cell; have kb1 := HKB1.out.cell
        go_wp2
        go_ret
        exact ⟨ret_bool (by rw [HAB.out]; simp [H0.out, H1.out, H2.out]), HB1.out⟩
    · have e1 : ∀ w, (Op.equalIn 10000 52 (.agg #[.int .i64 a.fOctave.fNum, .int .i64 a.fOctave.fDen]) (.agg #[.int .i64 b.fOctave.fNum, .int .i64 b.fOctave.fDen])).run Tryz.prog w = .ok false w := by have := eq_Frac 9998 a.fOctave b.fOctave; rwa [show decide (a.fOctave = b.fOctave) = false by simp [h1]] at this
      have H1 := hide h1; clear h1
      go_enter Tryz.func63, Tryz.ntmps63
      go_wp2
      go_ret
      exact ⟨ret_bool (by rw [HAB.out]; simp [H0.out, H1.out]), HB0.out⟩
  · have e0 : ∀ w, (Op.equalIn 10000 52 (.agg #[.int .i64 a.fBase.fNum, .int .i64 a.fBase.fDen]) (.agg #[.int .i64 b.fBase.fNum, .int .i64 b.fBase.fDen])).run Tryz.prog w = .ok false w := by have := eq_Frac 9998 a.fBase b.fBase; rwa [show decide (a.fBase = b.fBase) = false by simp [h0]] at this
    have H0 := hide h0; clear h0
    go_enter Tryz.func63, Tryz.ntmps63
    go_wp2
    go_ret
    exact ⟨ret_bool (by rw [HAB.out]; simp [H0.out]), HB0.out⟩
end Go.Proofs.YtfifcnojkjjnkaaGreat
