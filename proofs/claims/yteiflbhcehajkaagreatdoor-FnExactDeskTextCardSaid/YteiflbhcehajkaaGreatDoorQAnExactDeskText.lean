/- Contracts: sums, differences, products and order of fractions, both sides. -/
import Derived.Test.YteiflbhcehajkaaGreatDoorQAmExactDeskText
import Derived.Test.YteiflbhcehajkaaGreatDoorQAeExactDeskText
set_option linter.unusedVariables false
set_option linter.unusedSimpArgs false
namespace Go.Proofs.YteiflbhcehajkaaGreatDoor
open Go.RowKit
theorem fr_rd2 {w : World} {g : Nat} {x y : GFrac} (hb : Bk w g 64 #[.int .i64 x.fNum, .int .i64 x.fDen, .int .i64 y.fNum, .int .i64 y.fDen]) : T.rd w (T.sl 64 2 ([x, y].map GFrac.t)) [.slice (some ⟨g, 0, none⟩) 2 2] := by
  simp only [T.rd]
  refine ⟨_, [.int .i64 x.fNum, .int .i64 x.fDen, .int .i64 y.fNum, .int .i64 y.fDen], rfl, fun t ht => ?_, ?_, ?_⟩
  · obtain ⟨z, _, rfl⟩ := List.mem_map.1 ht; exact GFrac.wide_t z
  · exact ⟨rfl, _, 2, rfl, Nat.le_refl _, by decide, fun _ => ⟨g, 0, rfl, hb.lt, fun j u hj => by rw [Nat.zero_add]; exact (hb.cell j).trans (by simpa using hj)⟩⟩
  · simp only [List.map_cons, List.map_nil, T.rds]
    exact ⟨[.int .i64 x.fNum, .int .i64 x.fDen], [.int .i64 y.fNum, .int .i64 y.fDen], rfl, by simpa only [GFrac.t, T.rd] using GFrac.rd_mk (x := x), [.int .i64 y.fNum, .int .i64 y.fDen], [], rfl, by simpa only [GFrac.t, T.rd] using GFrac.rd_mk (x := y), rfl⟩
set_option maxHeartbeats 2000000 in
set_option maxRecDepth 20000 in
theorem c_areFracs (v : Value) (l : List GFrac) (w : World) (hr : T.rd w (T.sl 64 2 (l.map GFrac.t)) [v]) : Calls Tryz.prog 148 #[v] w fun e w' => e = .returned (.bool (tf (Each l fun _ f => fracOk f))) ∧ Below w.heap.size w w' := by
  obtain ⟨A, cap, rfl, hln, hc, hx⟩ := T.rd_openG hr; have HX := hide hx; clear hx hr
  go_enter Tryz.func148, Tryz.ntmps148
  go_wp2
  go_loopw [7] (fun i wr => ∃ k : Nat, k ≤ l.length ∧ i = .int .i64 k ∧ Upto l (fun _ f => fracOk f) k ∧ Below w.heap.size w wr) (fun i _ => l.length - (intOf i).toNat)
  case atStart => exact ⟨0, Nat.zero_le _, rfl, Upto.zero, Below.refl _ _⟩
  case round =>
    obtain ⟨k, hk, rfl, hs, hbw⟩ := hrel
    have HS := hide hs; have HB := hide hbw; clear hs hbw
    by_cases hlt : k < l.length
    rotate_left
    ·
      have hall := hide (HS.out.all (by omega))
      go_wp2
      go_ret
      exact ⟨ret_bool (tf_yes hall.out).symm, HB.out⟩
    have hgk := List.getElem?_eq_getElem hlt
    obtain ⟨b1, off, cs1, hA, hb1, hcs, hcell⟩ := HX.out k l[k] hgk
    subst hA
    generalize l[k] = y at *
    have HG := hide hgk; clear hgk
    obtain rfl := GFrac.rd_open (show T.rds _ _ _ by simpa only [GFrac.t, T.rd] using hcs)
    have d0 := (HB.out.cell hb1).trans (hcell 0 (.int .i64 y.fNum) rfl)
    have d1 := (HB.out.cell hb1).trans (hcell 1 (.int .i64 y.fDen) rfl)
    rw [show off + (k * 2 + 0) = off + k * 2 by omega] at d0
    rw [show off + (k * 2 + 1) = off + k * 2 + 1 by omega] at d1
    clear hcs hcell
    have hq1 : b1 < wr.heap.size := Nat.lt_of_lt_of_le hb1 HB.out.size
    have HB2 := hide (HB.out.alloc HB.out.size (.cells #[.int .i64 y.fNum, .int .i64 y.fDen] 64))
    by_cases h1 : fracOk y
    rotate_left
    ·
      have q1 := tf_no h1; have H1 := hide h1; clear h1
      go_wp2_with (go_at_call 192; refine (c_isFrac y _ _ GFrac.rd_mk).mono ?_; rintro e w2 ⟨rfl, hb⟩; have HB3 := hide (bthen HB2.out HB2.out.size hb); clear hb; rw [q1])
      go_ret
      exact ⟨ret_bool (tf_no fun h => H1.out (h k y HG.out)).symm, HB3.out⟩
    have q1 := tf_yes h1; have H1 := hide h1; clear h1
    go_wp2_with (go_at_call 192; refine (c_isFrac y _ _ GFrac.rd_mk).mono ?_; rintro e w2 ⟨rfl, hb⟩; have HB3 := hide (bthen HB2.out HB2.out.size hb); clear hb; rw [q1])
    go_roundw
    case rel => exact ⟨k + 1, by omega, by go_num, HS.out.step HG.out H1.out, HB3.out⟩
    case measure => simp [intOf]; omega
set_option maxHeartbeats 1000000 in
set_option maxRecDepth 20000 in
theorem c_AddFrac (x y : GFrac) (w : World) : Calls Tryz.prog 195 #[.agg #[.int .i64 x.fNum, .int .i64 x.fDen], .agg #[.int .i64 y.fNum, .int .i64 y.fDen]] w fun e w' => e = .returned (.tuple #[.agg #[.int .i64 (addFr x y).1.fNum, .int .i64 (addFr x y).1.fDen], .int .i64 (addFr x y).2]) ∧ Below w.heap.size w w' := by
  have HB3 := hide (show Below w.heap.size w (((w.alloc (.cells #[.int .i64 x.fNum, .int .i64 x.fDen] 64)).alloc (.cells #[.int .i64 y.fNum, .int .i64 y.fDen] 64)).alloc (.cells #[.int .i64 0, .int .i64 0] 64)) from ((((Below.refl w.heap.size w).alloc (Nat.le_refl _) (.cells #[.int .i64 x.fNum, .int .i64 x.fDen] 64)).alloc (by simp) (.cells #[.int .i64 y.fNum, .int .i64 y.fDen] 64)).alloc (by simp; omega) (.cells #[.int .i64 0, .int .i64 0] 64)))
  have HX3 := hide (((Bk.born w 64 #[.int .i64 x.fNum, .int .i64 x.fDen]).alloc (.cells #[.int .i64 y.fNum, .int .i64 y.fDen] 64)).alloc (.cells #[.int .i64 0, .int .i64 0] 64))
  have HY3 := hide ((Bk.born1' w (.cells #[.int .i64 x.fNum, .int .i64 x.fDen] 64) 64 #[.int .i64 y.fNum, .int .i64 y.fDen]).alloc (.cells #[.int .i64 0, .int .i64 0] 64))
  have HZ3 : Sec (Bk (((w.alloc (.cells #[.int .i64 x.fNum, .int .i64 x.fDen] 64)).alloc (.cells #[.int .i64 y.fNum, .int .i64 y.fDen] 64)).alloc (.cells #[.int .i64 0, .int .i64 0] 64)) (w.heap.size + 2) 64 #[.int .i64 0, .int .i64 0]) := hide (Bk.born2 w (.cells #[.int .i64 x.fNum, .int .i64 x.fDen] 64) (.cells #[.int .i64 y.fNum, .int .i64 y.fDen] 64) 64 #[.int .i64 0, .int .i64 0])
  have hsz : (((w.alloc (.cells #[.int .i64 x.fNum, .int .i64 x.fDen] 64)).alloc (.cells #[.int .i64 y.fNum, .int .i64 y.fDen] 64)).alloc (.cells #[.int .i64 0, .int .i64 0] 64)).heap.size = w.heap.size + 1 + 1 + 1 := by simp
  generalize hW3 : (((w.alloc (.cells #[.int .i64 x.fNum, .int .i64 x.fDen] 64)).alloc (.cells #[.int .i64 y.fNum, .int .i64 y.fDen] 64)).alloc (.cells #[.int .i64 0, .int .i64 0] 64)) = W3 at *; have HW3 := hide hW3; clear hW3
  have HB4 := hide (HB3.out.alloc HB3.out.size (.cells #[.int .i64 x.fNum, .int .i64 x.fDen, .int .i64 y.fNum, .int .i64 y.fDen] 64))
  have HL4 := hide (Bk.born W3 64 #[.int .i64 x.fNum, .int .i64 x.fDen, .int .i64 y.fNum, .int .i64 y.fDen])
  have HX4 := hide (HX3.out.alloc (.cells #[.int .i64 x.fNum, .int .i64 x.fDen, .int .i64 y.fNum, .int .i64 y.fDen] 64))
  have HY4 := hide (HY3.out.alloc (.cells #[.int .i64 x.fNum, .int .i64 x.fDen, .int .i64 y.fNum, .int .i64 y.fDen] 64))
  have HZ4 := hide (HZ3.out.alloc (.cells #[.int .i64 x.fNum, .int .i64 x.fDen, .int .i64 y.fNum, .int .i64 y.fDen] 64))
  have HRD := hide (fr_rd2 HL4.out)
  by_cases ok : fracOk x ∧ fracOk y
  rotate_left
  ·
    have q1 : tf (Each [x, y] fun _ f => fracOk f) = false := tf_no (fun h => ok ⟨h 0 x rfl, h 1 y rfl⟩)
    have HM := hide (show addFr x y = (zeroFr, 1) by unfold addFr; rw [if_neg ok]); clear ok
    go_enter Tryz.func195, Tryz.ntmps195
    go_wp2_with fail
    rw [HW3.out]
    rw [show w.heap.size + 1 + 1 + 1 = W3.heap.size from hsz.symm]
    refine (c_areFracs _ [x, y] _ HRD.out).mono ?_; rintro e w5 ⟨rfl, hb⟩
    rw [q1]
    have HB5 := hide (bthen HB4.out HB4.out.size hb)
    have HX5 := hide (HX4.out.below hb HX4.out.lt); have kX := HX5.out.cell; have lX := HX5.out.lt
    have HY5 := hide (HY4.out.below hb HY4.out.lt); have kY := HY5.out.cell; have lY := HY5.out.lt
    have HZ5 := hide (HZ4.out.below hb HZ4.out.lt); have kZ := HZ5.out.cell; have lZ := HZ5.out.lt
    have kf := HZ5.out.free; clear hb
    go_wp2
    refine bodyPost_ret (v := .tuple #[.agg #[.int .i64 0, .int .i64 0], .int .i64 1]) (by simp [results, Tryz.results195, go_sem, kZ, lZ, kf]) rfl ?_
    rw [HM.out]; have hb := HB5.out; exact ⟨rfl, (by repeat (first | with_reducible exact Below.refl _ _ | with_reducible assumption | with_reducible refine Below.setCell ?_ (by first | omega | (simp; done) | (simp; omega)) _ | with_reducible refine Below.alloc ?_ (by first | omega | (simp; done) | (simp; omega)) _ | with_reducible refine Below.drew ?_ | with_reducible refine below_drewN ?_ _ | exact Below.refl _ _ | assumption | refine Below.drew ?_ | refine below_drewN ?_ _ | refine Below.alloc ?_ (by first | omega | (simp; done) | (simp; omega)) _ | refine Below.setCell ?_ (by first | omega | (simp; done) | (simp; omega)) _))⟩
  have q1 : tf (Each [x, y] fun _ f => fracOk f) = true := tf_yes (fun i f hf => by
    rcases i with _ | _ | i
    · obtain rfl : x = f := by simpa using hf
      exact ok.1
    · obtain rfl : y = f := by simpa using hf
      exact ok.2
    · simp at hf)
  have HM := hide (show addFr x y = mkFr (x.fNum * y.fDen + y.fNum * x.fDen) (x.fDen * y.fDen) by unfold addFr; rw [if_pos ok])
  obtain ⟨hx, hy⟩ := ok
  obtain ⟨⟨x1, x2⟩, ⟨x3, x4⟩, -⟩ := hx
  obtain ⟨⟨y1, y2⟩, ⟨y3, y4⟩, -⟩ := hy
  have pA := prod_bnd (A := 1000000000) (B := 1000000) ⟨x3, x4⟩ ⟨by omega, y2⟩
  have pB := prod_bnd (A := 1000000000) (B := 1000000) ⟨y3, y4⟩ ⟨by omega, x2⟩
  have pC := prod_bnd (A := 1000000000) (B := 1000000) (x := x.fDen) (y := y.fDen) ⟨by omega, by omega⟩ ⟨by omega, y2⟩
  have e0 : IntKind.i64.wrap (x.fNum * y.fDen) = x.fNum * y.fDen := IntWalk.i64_in _ (by omega)
  have e1 : IntKind.i64.wrap (y.fNum * x.fDen) = y.fNum * x.fDen := IntWalk.i64_in _ (by omega)
  have e2 : IntKind.i64.wrap (x.fNum * y.fDen + y.fNum * x.fDen) = x.fNum * y.fDen + y.fNum * x.fDen := IntWalk.i64_in _ (by omega)
  have e3 : IntKind.i64.wrap (x.fDen * y.fDen) = x.fDen * y.fDen := IntWalk.i64_in _ (by omega)
  have CM := hide (fun W => c_MakeFrac ((x.fNum * y.fDen + y.fNum * x.fDen)) ((x.fDen * y.fDen)) W (by omega) (by omega))
  clear pA pB pC x1 x2 x3 x4 y1 y2 y3 y4
  obtain ⟨⟨mn, md⟩, mc, hmk⟩ : ∃ f c, mkFr (x.fNum * y.fDen + y.fNum * x.fDen) (x.fDen * y.fDen) = (f, c) := ⟨_, _, rfl⟩
  rw [hmk] at HM CM; clear hmk; dsimp only at CM
  go_enter Tryz.func195, Tryz.ntmps195
  go_wp2_with fail
  rw [HW3.out]
  rw [show w.heap.size + 1 + 1 + 1 = W3.heap.size from hsz.symm]
  refine (c_areFracs _ [x, y] _ HRD.out).mono ?_; rintro e w5 ⟨rfl, hb⟩
  rw [q1]
  have HB5 := hide (bthen HB4.out HB4.out.size hb)
  have HX5 := hide (HX4.out.below hb HX4.out.lt); have kX := HX5.out.cell; have lX := HX5.out.lt
  have HY5 := hide (HY4.out.below hb HY4.out.lt); have kY := HY5.out.cell; have lY := HY5.out.lt
  have HZ5 := hide (HZ4.out.below hb HZ4.out.lt); have kZ := HZ5.out.cell; have lZ := HZ5.out.lt
  have kf := HZ5.out.free; clear hb
  go_wp2_with (go_at_call 223; refine (CM.out _).mono ?_; rintro e w6 ⟨rfl, hb⟩; have HB6 := hide (bthen HB5.out HB5.out.size hb); have HZ6 := hide (HZ5.out.below hb HZ5.out.lt); clear hb kX kY kZ lX lY lZ; have kZ := HZ6.out.cell; have lZ := HZ6.out.lt; have kf := HZ6.out.free)
  refine bodyPost_ret (v := .tuple #[.agg #[.int .i64 mn, .int .i64 md], .int .i64 mc]) (by simp [results, Tryz.results195, go_sem, kZ, lZ, kf]) rfl ?_
  rw [HM.out]; have hb := HB6.out; exact ⟨rfl, (by repeat (first | with_reducible exact Below.refl _ _ | with_reducible assumption | with_reducible refine Below.setCell ?_ (by first | omega | (simp; done) | (simp; omega)) _ | with_reducible refine Below.alloc ?_ (by first | omega | (simp; done) | (simp; omega)) _ | with_reducible refine Below.drew ?_ | with_reducible refine below_drewN ?_ _ | exact Below.refl _ _ | assumption | refine Below.drew ?_ | refine below_drewN ?_ _ | refine Below.alloc ?_ (by first | omega | (simp; done) | (simp; omega)) _ | refine Below.setCell ?_ (by first | omega | (simp; done) | (simp; omega)) _))⟩
set_option maxHeartbeats 1000000 in
set_option maxRecDepth 20000 in
theorem c_sAddFrac (x y : GFrac) (w : World) : Calls Tryz.prog 217 #[.agg #[.int .i64 x.fNum, .int .i64 x.fDen], .agg #[.int .i64 y.fNum, .int .i64 y.fDen]] w fun e w' => e = .returned (.tuple #[.agg #[.int .i64 (addFr x y).1.fNum, .int .i64 (addFr x y).1.fDen], .int .i64 (addFr x y).2]) ∧ Below w.heap.size w w' := by
  have HB3 := hide (show Below w.heap.size w (((w.alloc (.cells #[.int .i64 x.fNum, .int .i64 x.fDen] 64)).alloc (.cells #[.int .i64 y.fNum, .int .i64 y.fDen] 64)).alloc (.cells #[.int .i64 0, .int .i64 0] 64)) from ((((Below.refl w.heap.size w).alloc (Nat.le_refl _) (.cells #[.int .i64 x.fNum, .int .i64 x.fDen] 64)).alloc (by simp) (.cells #[.int .i64 y.fNum, .int .i64 y.fDen] 64)).alloc (by simp; omega) (.cells #[.int .i64 0, .int .i64 0] 64)))
  have HX3 := hide (((Bk.born w 64 #[.int .i64 x.fNum, .int .i64 x.fDen]).alloc (.cells #[.int .i64 y.fNum, .int .i64 y.fDen] 64)).alloc (.cells #[.int .i64 0, .int .i64 0] 64))
  have HY3 := hide ((Bk.born1' w (.cells #[.int .i64 x.fNum, .int .i64 x.fDen] 64) 64 #[.int .i64 y.fNum, .int .i64 y.fDen]).alloc (.cells #[.int .i64 0, .int .i64 0] 64))
  have HZ3 : Sec (Bk (((w.alloc (.cells #[.int .i64 x.fNum, .int .i64 x.fDen] 64)).alloc (.cells #[.int .i64 y.fNum, .int .i64 y.fDen] 64)).alloc (.cells #[.int .i64 0, .int .i64 0] 64)) (w.heap.size + 2) 64 #[.int .i64 0, .int .i64 0]) := hide (Bk.born2 w (.cells #[.int .i64 x.fNum, .int .i64 x.fDen] 64) (.cells #[.int .i64 y.fNum, .int .i64 y.fDen] 64) 64 #[.int .i64 0, .int .i64 0])
  by_cases ok : fracOk x ∧ fracOk y
  rotate_left
  ·
    have HM := hide (show addFr x y = (zeroFr, 1) by unfold addFr; rw [if_neg ok])
    by_cases okx : fracOk x
    ·
      have qx := tf_yes okx; have qy := tf_no (fun h => ok ⟨okx, h⟩); clear ok okx
      go_enter Tryz.func217, Tryz.ntmps217
      go_wp2_with (first | (go_at_call_of 138 (Value.agg #[.int .i64 x.fNum, .int .i64 x.fDen]); refine (c_l02Ok x _ _ GFrac.rd_mk).mono ?_; rintro e w4 ⟨rfl, hb⟩; rw [qx]; have HB4 := hide (bthen HB3.out HB3.out.size hb); have HX4 := hide (HX3.out.below hb HX3.out.lt); have kX := HX4.out.cell; have lX := HX4.out.lt; have fX := HX4.out.free; have HY4 := hide (HY3.out.below hb HY3.out.lt); have kY := HY4.out.cell; have lY := HY4.out.lt; have fY := HY4.out.free; have HZ4 := hide (HZ3.out.below hb HZ3.out.lt); have kZ := HZ4.out.cell; have lZ := HZ4.out.lt; have fZ := HZ4.out.free; clear hb) | (go_at_call_of 138 (Value.agg #[.int .i64 y.fNum, .int .i64 y.fDen]); refine (c_l02Ok y _ _ GFrac.rd_mk).mono ?_; rintro e w5 ⟨rfl, hb⟩; rw [qy]; have HB5 := hide (bthen HB4.out HB4.out.size hb); clear kX kY kZ lX lY lZ fX fY fZ; have HX5 := hide (HX4.out.below hb HX4.out.lt); have kX := HX5.out.cell; have lX := HX5.out.lt; have fX := HX5.out.free; have HY5 := hide (HY4.out.below hb HY4.out.lt); have kY := HY5.out.cell; have lY := HY5.out.lt; have fY := HY5.out.free; have HZ5 := hide (HZ4.out.below hb HZ4.out.lt); have kZ := HZ5.out.cell; have lZ := HZ5.out.lt; have fZ := HZ5.out.free; clear hb))
      refine bodyPost_ret (v := .tuple #[.agg #[.int .i64 0, .int .i64 0], .int .i64 1]) (by simp [results, Tryz.results217, go_sem, kZ, lZ, fZ]) rfl ?_
      rw [HM.out]; have hb := HB5.out; exact ⟨rfl, (by repeat (first | with_reducible exact Below.refl _ _ | with_reducible assumption | with_reducible refine Below.setCell ?_ (by first | omega | (simp; done) | (simp; omega)) _ | with_reducible refine Below.alloc ?_ (by first | omega | (simp; done) | (simp; omega)) _ | with_reducible refine Below.drew ?_ | with_reducible refine below_drewN ?_ _ | exact Below.refl _ _ | assumption | refine Below.drew ?_ | refine below_drewN ?_ _ | refine Below.alloc ?_ (by first | omega | (simp; done) | (simp; omega)) _ | refine Below.setCell ?_ (by first | omega | (simp; done) | (simp; omega)) _))⟩
    have qx := tf_no okx; clear ok okx
    go_enter Tryz.func217, Tryz.ntmps217
    go_wp2_with (go_at_call_of 138 (Value.agg #[.int .i64 x.fNum, .int .i64 x.fDen]); refine (c_l02Ok x _ _ GFrac.rd_mk).mono ?_; rintro e w4 ⟨rfl, hb⟩; rw [qx]; have HB4 := hide (bthen HB3.out HB3.out.size hb); have HX4 := hide (HX3.out.below hb HX3.out.lt); have kX := HX4.out.cell; have lX := HX4.out.lt; have fX := HX4.out.free; have HY4 := hide (HY3.out.below hb HY3.out.lt); have kY := HY4.out.cell; have lY := HY4.out.lt; have fY := HY4.out.free; have HZ4 := hide (HZ3.out.below hb HZ3.out.lt); have kZ := HZ4.out.cell; have lZ := HZ4.out.lt; have fZ := HZ4.out.free; clear hb)
    refine bodyPost_ret (v := .tuple #[.agg #[.int .i64 0, .int .i64 0], .int .i64 1]) (by simp [results, Tryz.results217, go_sem, kZ, lZ, fZ]) rfl ?_
    rw [HM.out]; have hb := HB4.out; exact ⟨rfl, (by repeat (first | with_reducible exact Below.refl _ _ | with_reducible assumption | with_reducible refine Below.setCell ?_ (by first | omega | (simp; done) | (simp; omega)) _ | with_reducible refine Below.alloc ?_ (by first | omega | (simp; done) | (simp; omega)) _ | with_reducible refine Below.drew ?_ | with_reducible refine below_drewN ?_ _ | exact Below.refl _ _ | assumption | refine Below.drew ?_ | refine below_drewN ?_ _ | refine Below.alloc ?_ (by first | omega | (simp; done) | (simp; omega)) _ | refine Below.setCell ?_ (by first | omega | (simp; done) | (simp; omega)) _))⟩
  have qx := tf_yes ok.1; have qy := tf_yes ok.2
  have HM := hide (show addFr x y = mkFr (x.fNum * y.fDen + y.fNum * x.fDen) (x.fDen * y.fDen) by unfold addFr; rw [if_pos ok])
  obtain ⟨hx, hy⟩ := ok
  obtain ⟨⟨x1, x2⟩, ⟨x3, x4⟩, -⟩ := hx
  obtain ⟨⟨y1, y2⟩, ⟨y3, y4⟩, -⟩ := hy
  have pA := prod_bnd (A := 1000000000) (B := 1000000) ⟨x3, x4⟩ ⟨by omega, y2⟩
  have pB := prod_bnd (A := 1000000000) (B := 1000000) ⟨y3, y4⟩ ⟨by omega, x2⟩
  have pC := prod_bnd (A := 1000000000) (B := 1000000) (x := x.fDen) (y := y.fDen) ⟨by omega, by omega⟩ ⟨by omega, y2⟩
  have e0 : IntKind.i64.wrap (x.fNum * y.fDen) = x.fNum * y.fDen := IntWalk.i64_in _ (by omega)
  have e1 : IntKind.i64.wrap (y.fNum * x.fDen) = y.fNum * x.fDen := IntWalk.i64_in _ (by omega)
  have e2 : IntKind.i64.wrap (x.fNum * y.fDen + y.fNum * x.fDen) = x.fNum * y.fDen + y.fNum * x.fDen := IntWalk.i64_in _ (by omega)
  have e3 : IntKind.i64.wrap (x.fDen * y.fDen) = x.fDen * y.fDen := IntWalk.i64_in _ (by omega)
  have CM := hide (fun W => c_sMakeFrac ((x.fNum * y.fDen + y.fNum * x.fDen)) ((x.fDen * y.fDen)) W (by omega) (by omega))
  clear pA pB pC x1 x2 x3 x4 y1 y2 y3 y4
  obtain ⟨⟨mn, md⟩, mc, hmk⟩ : ∃ f c, mkFr (x.fNum * y.fDen + y.fNum * x.fDen) (x.fDen * y.fDen) = (f, c) := ⟨_, _, rfl⟩
  rw [hmk] at HM CM; clear hmk; dsimp only at CM
  go_enter Tryz.func217, Tryz.ntmps217
  go_wp2_with (first | (go_at_call_of 138 (Value.agg #[.int .i64 x.fNum, .int .i64 x.fDen]); refine (c_l02Ok x _ _ GFrac.rd_mk).mono ?_; rintro e w4 ⟨rfl, hb⟩; rw [qx]; have HB4 := hide (bthen HB3.out HB3.out.size hb); have HX4 := hide (HX3.out.below hb HX3.out.lt); have kX := HX4.out.cell; have lX := HX4.out.lt; have fX := HX4.out.free; have HY4 := hide (HY3.out.below hb HY3.out.lt); have kY := HY4.out.cell; have lY := HY4.out.lt; have fY := HY4.out.free; have HZ4 := hide (HZ3.out.below hb HZ3.out.lt); have kZ := HZ4.out.cell; have lZ := HZ4.out.lt; have fZ := HZ4.out.free; clear hb) | (go_at_call_of 138 (Value.agg #[.int .i64 y.fNum, .int .i64 y.fDen]); refine (c_l02Ok y _ _ GFrac.rd_mk).mono ?_; rintro e w5 ⟨rfl, hb⟩; rw [qy]; have HB5 := hide (bthen HB4.out HB4.out.size hb); clear kX kY kZ lX lY lZ fX fY fZ; have HX5 := hide (HX4.out.below hb HX4.out.lt); have kX := HX5.out.cell; have lX := HX5.out.lt; have fX := HX5.out.free; have HY5 := hide (HY4.out.below hb HY4.out.lt); have kY := HY5.out.cell; have lY := HY5.out.lt; have fY := HY5.out.free; have HZ5 := hide (HZ4.out.below hb HZ4.out.lt); have kZ := HZ5.out.cell; have lZ := HZ5.out.lt; have fZ := HZ5.out.free; clear hb) | (go_at_call 238; refine (CM.out _).mono ?_; rintro e w6 ⟨rfl, hb⟩; have HB6 := hide (bthen HB5.out HB5.out.size hb); have HZ6 := hide (HZ5.out.below hb HZ5.out.lt); clear hb kX kY kZ lX lY lZ; have kZ := HZ6.out.cell; have lZ := HZ6.out.lt; have kf := HZ6.out.free))
  refine bodyPost_ret (v := .tuple #[.agg #[.int .i64 mn, .int .i64 md], .int .i64 mc]) (by simp [results, Tryz.results217, go_sem, kZ, lZ, kf]) rfl ?_
  rw [HM.out]; have hb := HB6.out; exact ⟨rfl, (by repeat (first | with_reducible exact Below.refl _ _ | with_reducible assumption | with_reducible refine Below.setCell ?_ (by first | omega | (simp; done) | (simp; omega)) _ | with_reducible refine Below.alloc ?_ (by first | omega | (simp; done) | (simp; omega)) _ | with_reducible refine Below.drew ?_ | with_reducible refine below_drewN ?_ _ | exact Below.refl _ _ | assumption | refine Below.drew ?_ | refine below_drewN ?_ _ | refine Below.alloc ?_ (by first | omega | (simp; done) | (simp; omega)) _ | refine Below.setCell ?_ (by first | omega | (simp; done) | (simp; omega)) _))⟩
set_option maxHeartbeats 1000000 in
set_option maxRecDepth 20000 in
theorem c_SubFrac (x y : GFrac) (w : World) : Calls Tryz.prog 193 #[.agg #[.int .i64 x.fNum, .int .i64 x.fDen], .agg #[.int .i64 y.fNum, .int .i64 y.fDen]] w fun e w' => e = .returned (.tuple #[.agg #[.int .i64 (subFr x y).1.fNum, .int .i64 (subFr x y).1.fDen], .int .i64 (subFr x y).2]) ∧ Below w.heap.size w w' := by
  have HB3 := hide (show Below w.heap.size w (((w.alloc (.cells #[.int .i64 x.fNum, .int .i64 x.fDen] 64)).alloc (.cells #[.int .i64 y.fNum, .int .i64 y.fDen] 64)).alloc (.cells #[.int .i64 0, .int .i64 0] 64)) from ((((Below.refl w.heap.size w).alloc (Nat.le_refl _) (.cells #[.int .i64 x.fNum, .int .i64 x.fDen] 64)).alloc (by simp) (.cells #[.int .i64 y.fNum, .int .i64 y.fDen] 64)).alloc (by simp; omega) (.cells #[.int .i64 0, .int .i64 0] 64)))
  have HX3 := hide (((Bk.born w 64 #[.int .i64 x.fNum, .int .i64 x.fDen]).alloc (.cells #[.int .i64 y.fNum, .int .i64 y.fDen] 64)).alloc (.cells #[.int .i64 0, .int .i64 0] 64))
  have HY3 := hide ((Bk.born1' w (.cells #[.int .i64 x.fNum, .int .i64 x.fDen] 64) 64 #[.int .i64 y.fNum, .int .i64 y.fDen]).alloc (.cells #[.int .i64 0, .int .i64 0] 64))
  have HZ3 : Sec (Bk (((w.alloc (.cells #[.int .i64 x.fNum, .int .i64 x.fDen] 64)).alloc (.cells #[.int .i64 y.fNum, .int .i64 y.fDen] 64)).alloc (.cells #[.int .i64 0, .int .i64 0] 64)) (w.heap.size + 2) 64 #[.int .i64 0, .int .i64 0]) := hide (Bk.born2 w (.cells #[.int .i64 x.fNum, .int .i64 x.fDen] 64) (.cells #[.int .i64 y.fNum, .int .i64 y.fDen] 64) 64 #[.int .i64 0, .int .i64 0])
  have hsz : (((w.alloc (.cells #[.int .i64 x.fNum, .int .i64 x.fDen] 64)).alloc (.cells #[.int .i64 y.fNum, .int .i64 y.fDen] 64)).alloc (.cells #[.int .i64 0, .int .i64 0] 64)).heap.size = w.heap.size + 1 + 1 + 1 := by simp
  generalize hW3 : (((w.alloc (.cells #[.int .i64 x.fNum, .int .i64 x.fDen] 64)).alloc (.cells #[.int .i64 y.fNum, .int .i64 y.fDen] 64)).alloc (.cells #[.int .i64 0, .int .i64 0] 64)) = W3 at *; have HW3 := hide hW3; clear hW3
  have HB4 := hide (HB3.out.alloc HB3.out.size (.cells #[.int .i64 x.fNum, .int .i64 x.fDen, .int .i64 y.fNum, .int .i64 y.fDen] 64))
  have HL4 := hide (Bk.born W3 64 #[.int .i64 x.fNum, .int .i64 x.fDen, .int .i64 y.fNum, .int .i64 y.fDen])
  have HX4 := hide (HX3.out.alloc (.cells #[.int .i64 x.fNum, .int .i64 x.fDen, .int .i64 y.fNum, .int .i64 y.fDen] 64))
  have HY4 := hide (HY3.out.alloc (.cells #[.int .i64 x.fNum, .int .i64 x.fDen, .int .i64 y.fNum, .int .i64 y.fDen] 64))
  have HZ4 := hide (HZ3.out.alloc (.cells #[.int .i64 x.fNum, .int .i64 x.fDen, .int .i64 y.fNum, .int .i64 y.fDen] 64))
  have HRD := hide (fr_rd2 HL4.out)
  by_cases ok : fracOk x ∧ fracOk y
  rotate_left
  ·
    have q1 : tf (Each [x, y] fun _ f => fracOk f) = false := tf_no (fun h => ok ⟨h 0 x rfl, h 1 y rfl⟩)
    have HM := hide (show subFr x y = (zeroFr, 1) by unfold subFr; rw [if_neg ok]); clear ok
    go_enter Tryz.func193, Tryz.ntmps193
    go_wp2_with fail
    rw [HW3.out]
    rw [show w.heap.size + 1 + 1 + 1 = W3.heap.size from hsz.symm]
    refine (c_areFracs _ [x, y] _ HRD.out).mono ?_; rintro e w5 ⟨rfl, hb⟩
    rw [q1]
    have HB5 := hide (bthen HB4.out HB4.out.size hb)
    have HX5 := hide (HX4.out.below hb HX4.out.lt); have kX := HX5.out.cell; have lX := HX5.out.lt
    have HY5 := hide (HY4.out.below hb HY4.out.lt); have kY := HY5.out.cell; have lY := HY5.out.lt
    have HZ5 := hide (HZ4.out.below hb HZ4.out.lt); have kZ := HZ5.out.cell; have lZ := HZ5.out.lt
    have kf := HZ5.out.free; clear hb
    go_wp2
    refine bodyPost_ret (v := .tuple #[.agg #[.int .i64 0, .int .i64 0], .int .i64 1]) (by simp [results, Tryz.results193, go_sem, kZ, lZ, kf]) rfl ?_
    rw [HM.out]; have hb := HB5.out; exact ⟨rfl, (by repeat (first | with_reducible exact Below.refl _ _ | with_reducible assumption | with_reducible refine Below.setCell ?_ (by first | omega | (simp; done) | (simp; omega)) _ | with_reducible refine Below.alloc ?_ (by first | omega | (simp; done) | (simp; omega)) _ | with_reducible refine Below.drew ?_ | with_reducible refine below_drewN ?_ _ | exact Below.refl _ _ | assumption | refine Below.drew ?_ | refine below_drewN ?_ _ | refine Below.alloc ?_ (by first | omega | (simp; done) | (simp; omega)) _ | refine Below.setCell ?_ (by first | omega | (simp; done) | (simp; omega)) _))⟩
  have q1 : tf (Each [x, y] fun _ f => fracOk f) = true := tf_yes (fun i f hf => by
    rcases i with _ | _ | i
    · obtain rfl : x = f := by simpa using hf
      exact ok.1
    · obtain rfl : y = f := by simpa using hf
      exact ok.2
    · simp at hf)
  have HM := hide (show subFr x y = mkFr (x.fNum * y.fDen - y.fNum * x.fDen) (x.fDen * y.fDen) by unfold subFr; rw [if_pos ok])
  obtain ⟨hx, hy⟩ := ok
  obtain ⟨⟨x1, x2⟩, ⟨x3, x4⟩, -⟩ := hx
  obtain ⟨⟨y1, y2⟩, ⟨y3, y4⟩, -⟩ := hy
  have pA := prod_bnd (A := 1000000000) (B := 1000000) ⟨x3, x4⟩ ⟨by omega, y2⟩
  have pB := prod_bnd (A := 1000000000) (B := 1000000) ⟨y3, y4⟩ ⟨by omega, x2⟩
  have pC := prod_bnd (A := 1000000000) (B := 1000000) (x := x.fDen) (y := y.fDen) ⟨by omega, by omega⟩ ⟨by omega, y2⟩
  have e0 : IntKind.i64.wrap (x.fNum * y.fDen) = x.fNum * y.fDen := IntWalk.i64_in _ (by omega)
  have e1 : IntKind.i64.wrap (y.fNum * x.fDen) = y.fNum * x.fDen := IntWalk.i64_in _ (by omega)
  have e2 : IntKind.i64.wrap (x.fNum * y.fDen - y.fNum * x.fDen) = x.fNum * y.fDen - y.fNum * x.fDen := IntWalk.i64_in _ (by omega)
  have e3 : IntKind.i64.wrap (x.fDen * y.fDen) = x.fDen * y.fDen := IntWalk.i64_in _ (by omega)
  have CM := hide (fun W => c_MakeFrac ((x.fNum * y.fDen - y.fNum * x.fDen)) ((x.fDen * y.fDen)) W (by omega) (by omega))
  clear pA pB pC x1 x2 x3 x4 y1 y2 y3 y4
  obtain ⟨⟨mn, md⟩, mc, hmk⟩ : ∃ f c, mkFr (x.fNum * y.fDen - y.fNum * x.fDen) (x.fDen * y.fDen) = (f, c) := ⟨_, _, rfl⟩
  rw [hmk] at HM CM; clear hmk; dsimp only at CM
  go_enter Tryz.func193, Tryz.ntmps193
  go_wp2_with fail
  rw [HW3.out]
  rw [show w.heap.size + 1 + 1 + 1 = W3.heap.size from hsz.symm]
  refine (c_areFracs _ [x, y] _ HRD.out).mono ?_; rintro e w5 ⟨rfl, hb⟩
  rw [q1]
  have HB5 := hide (bthen HB4.out HB4.out.size hb)
  have HX5 := hide (HX4.out.below hb HX4.out.lt); have kX := HX5.out.cell; have lX := HX5.out.lt
  have HY5 := hide (HY4.out.below hb HY4.out.lt); have kY := HY5.out.cell; have lY := HY5.out.lt
  have HZ5 := hide (HZ4.out.below hb HZ4.out.lt); have kZ := HZ5.out.cell; have lZ := HZ5.out.lt
  have kf := HZ5.out.free; clear hb
  go_wp2_with (go_at_call 223; refine (CM.out _).mono ?_; rintro e w6 ⟨rfl, hb⟩; have HB6 := hide (bthen HB5.out HB5.out.size hb); have HZ6 := hide (HZ5.out.below hb HZ5.out.lt); clear hb kX kY kZ lX lY lZ; have kZ := HZ6.out.cell; have lZ := HZ6.out.lt; have kf := HZ6.out.free)
  refine bodyPost_ret (v := .tuple #[.agg #[.int .i64 mn, .int .i64 md], .int .i64 mc]) (by simp [results, Tryz.results193, go_sem, kZ, lZ, kf]) rfl ?_
  rw [HM.out]; have hb := HB6.out; exact ⟨rfl, (by repeat (first | with_reducible exact Below.refl _ _ | with_reducible assumption | with_reducible refine Below.setCell ?_ (by first | omega | (simp; done) | (simp; omega)) _ | with_reducible refine Below.alloc ?_ (by first | omega | (simp; done) | (simp; omega)) _ | with_reducible refine Below.drew ?_ | with_reducible refine below_drewN ?_ _ | exact Below.refl _ _ | assumption | refine Below.drew ?_ | refine below_drewN ?_ _ | refine Below.alloc ?_ (by first | omega | (simp; done) | (simp; omega)) _ | refine Below.setCell ?_ (by first | omega | (simp; done) | (simp; omega)) _))⟩
set_option maxHeartbeats 1000000 in
set_option maxRecDepth 20000 in
theorem c_sSubFrac (x y : GFrac) (w : World) : Calls Tryz.prog 218 #[.agg #[.int .i64 x.fNum, .int .i64 x.fDen], .agg #[.int .i64 y.fNum, .int .i64 y.fDen]] w fun e w' => e = .returned (.tuple #[.agg #[.int .i64 (subFr x y).1.fNum, .int .i64 (subFr x y).1.fDen], .int .i64 (subFr x y).2]) ∧ Below w.heap.size w w' := by
  have HB3 := hide (show Below w.heap.size w (((w.alloc (.cells #[.int .i64 x.fNum, .int .i64 x.fDen] 64)).alloc (.cells #[.int .i64 y.fNum, .int .i64 y.fDen] 64)).alloc (.cells #[.int .i64 0, .int .i64 0] 64)) from ((((Below.refl w.heap.size w).alloc (Nat.le_refl _) (.cells #[.int .i64 x.fNum, .int .i64 x.fDen] 64)).alloc (by simp) (.cells #[.int .i64 y.fNum, .int .i64 y.fDen] 64)).alloc (by simp; omega) (.cells #[.int .i64 0, .int .i64 0] 64)))
  have HX3 := hide (((Bk.born w 64 #[.int .i64 x.fNum, .int .i64 x.fDen]).alloc (.cells #[.int .i64 y.fNum, .int .i64 y.fDen] 64)).alloc (.cells #[.int .i64 0, .int .i64 0] 64))
  have HY3 := hide ((Bk.born1' w (.cells #[.int .i64 x.fNum, .int .i64 x.fDen] 64) 64 #[.int .i64 y.fNum, .int .i64 y.fDen]).alloc (.cells #[.int .i64 0, .int .i64 0] 64))
  have HZ3 : Sec (Bk (((w.alloc (.cells #[.int .i64 x.fNum, .int .i64 x.fDen] 64)).alloc (.cells #[.int .i64 y.fNum, .int .i64 y.fDen] 64)).alloc (.cells #[.int .i64 0, .int .i64 0] 64)) (w.heap.size + 2) 64 #[.int .i64 0, .int .i64 0]) := hide (Bk.born2 w (.cells #[.int .i64 x.fNum, .int .i64 x.fDen] 64) (.cells #[.int .i64 y.fNum, .int .i64 y.fDen] 64) 64 #[.int .i64 0, .int .i64 0])
  by_cases ok : fracOk x ∧ fracOk y
  rotate_left
  ·
    have HM := hide (show subFr x y = (zeroFr, 1) by unfold subFr; rw [if_neg ok])
    by_cases okx : fracOk x
    ·
      have qx := tf_yes okx; have qy := tf_no (fun h => ok ⟨okx, h⟩); clear ok okx
      go_enter Tryz.func218, Tryz.ntmps218
      go_wp2_with (first | (go_at_call_of 138 (Value.agg #[.int .i64 x.fNum, .int .i64 x.fDen]); refine (c_l02Ok x _ _ GFrac.rd_mk).mono ?_; rintro e w4 ⟨rfl, hb⟩; rw [qx]; have HB4 := hide (bthen HB3.out HB3.out.size hb); have HX4 := hide (HX3.out.below hb HX3.out.lt); have kX := HX4.out.cell; have lX := HX4.out.lt; have fX := HX4.out.free; have HY4 := hide (HY3.out.below hb HY3.out.lt); have kY := HY4.out.cell; have lY := HY4.out.lt; have fY := HY4.out.free; have HZ4 := hide (HZ3.out.below hb HZ3.out.lt); have kZ := HZ4.out.cell; have lZ := HZ4.out.lt; have fZ := HZ4.out.free; clear hb) | (go_at_call_of 138 (Value.agg #[.int .i64 y.fNum, .int .i64 y.fDen]); refine (c_l02Ok y _ _ GFrac.rd_mk).mono ?_; rintro e w5 ⟨rfl, hb⟩; rw [qy]; have HB5 := hide (bthen HB4.out HB4.out.size hb); clear kX kY kZ lX lY lZ fX fY fZ; have HX5 := hide (HX4.out.below hb HX4.out.lt); have kX := HX5.out.cell; have lX := HX5.out.lt; have fX := HX5.out.free; have HY5 := hide (HY4.out.below hb HY4.out.lt); have kY := HY5.out.cell; have lY := HY5.out.lt; have fY := HY5.out.free; have HZ5 := hide (HZ4.out.below hb HZ4.out.lt); have kZ := HZ5.out.cell; have lZ := HZ5.out.lt; have fZ := HZ5.out.free; clear hb))
      refine bodyPost_ret (v := .tuple #[.agg #[.int .i64 0, .int .i64 0], .int .i64 1]) (by simp [results, Tryz.results218, go_sem, kZ, lZ, fZ]) rfl ?_
      rw [HM.out]; have hb := HB5.out; exact ⟨rfl, (by repeat (first | with_reducible exact Below.refl _ _ | with_reducible assumption | with_reducible refine Below.setCell ?_ (by first | omega | (simp; done) | (simp; omega)) _ | with_reducible refine Below.alloc ?_ (by first | omega | (simp; done) | (simp; omega)) _ | with_reducible refine Below.drew ?_ | with_reducible refine below_drewN ?_ _ | exact Below.refl _ _ | assumption | refine Below.drew ?_ | refine below_drewN ?_ _ | refine Below.alloc ?_ (by first | omega | (simp; done) | (simp; omega)) _ | refine Below.setCell ?_ (by first | omega | (simp; done) | (simp; omega)) _))⟩
    have qx := tf_no okx; clear ok okx
    go_enter Tryz.func218, Tryz.ntmps218
    go_wp2_with (go_at_call_of 138 (Value.agg #[.int .i64 x.fNum, .int .i64 x.fDen]); refine (c_l02Ok x _ _ GFrac.rd_mk).mono ?_; rintro e w4 ⟨rfl, hb⟩; rw [qx]; have HB4 := hide (bthen HB3.out HB3.out.size hb); have HX4 := hide (HX3.out.below hb HX3.out.lt); have kX := HX4.out.cell; have lX := HX4.out.lt; have fX := HX4.out.free; have HY4 := hide (HY3.out.below hb HY3.out.lt); have kY := HY4.out.cell; have lY := HY4.out.lt; have fY := HY4.out.free; have HZ4 := hide (HZ3.out.below hb HZ3.out.lt); have kZ := HZ4.out.cell; have lZ := HZ4.out.lt; have fZ := HZ4.out.free; clear hb)
    refine bodyPost_ret (v := .tuple #[.agg #[.int .i64 0, .int .i64 0], .int .i64 1]) (by simp [results, Tryz.results218, go_sem, kZ, lZ, fZ]) rfl ?_
    rw [HM.out]; have hb := HB4.out; exact ⟨rfl, (by repeat (first | with_reducible exact Below.refl _ _ | with_reducible assumption | with_reducible refine Below.setCell ?_ (by first | omega | (simp; done) | (simp; omega)) _ | with_reducible refine Below.alloc ?_ (by first | omega | (simp; done) | (simp; omega)) _ | with_reducible refine Below.drew ?_ | with_reducible refine below_drewN ?_ _ | exact Below.refl _ _ | assumption | refine Below.drew ?_ | refine below_drewN ?_ _ | refine Below.alloc ?_ (by first | omega | (simp; done) | (simp; omega)) _ | refine Below.setCell ?_ (by first | omega | (simp; done) | (simp; omega)) _))⟩
  have qx := tf_yes ok.1; have qy := tf_yes ok.2
  have HM := hide (show subFr x y = mkFr (x.fNum * y.fDen - y.fNum * x.fDen) (x.fDen * y.fDen) by unfold subFr; rw [if_pos ok])
  obtain ⟨hx, hy⟩ := ok
  obtain ⟨⟨x1, x2⟩, ⟨x3, x4⟩, -⟩ := hx
  obtain ⟨⟨y1, y2⟩, ⟨y3, y4⟩, -⟩ := hy
  have pA := prod_bnd (A := 1000000000) (B := 1000000) ⟨x3, x4⟩ ⟨by omega, y2⟩
  have pB := prod_bnd (A := 1000000000) (B := 1000000) ⟨y3, y4⟩ ⟨by omega, x2⟩
  have pC := prod_bnd (A := 1000000000) (B := 1000000) (x := x.fDen) (y := y.fDen) ⟨by omega, by omega⟩ ⟨by omega, y2⟩
  have e0 : IntKind.i64.wrap (x.fNum * y.fDen) = x.fNum * y.fDen := IntWalk.i64_in _ (by omega)
  have e1 : IntKind.i64.wrap (y.fNum * x.fDen) = y.fNum * x.fDen := IntWalk.i64_in _ (by omega)
  have e2 : IntKind.i64.wrap (x.fNum * y.fDen - y.fNum * x.fDen) = x.fNum * y.fDen - y.fNum * x.fDen := IntWalk.i64_in _ (by omega)
  have e3 : IntKind.i64.wrap (x.fDen * y.fDen) = x.fDen * y.fDen := IntWalk.i64_in _ (by omega)
  have CM := hide (fun W => c_sMakeFrac ((x.fNum * y.fDen - y.fNum * x.fDen)) ((x.fDen * y.fDen)) W (by omega) (by omega))
  clear pA pB pC x1 x2 x3 x4 y1 y2 y3 y4
  obtain ⟨⟨mn, md⟩, mc, hmk⟩ : ∃ f c, mkFr (x.fNum * y.fDen - y.fNum * x.fDen) (x.fDen * y.fDen) = (f, c) := ⟨_, _, rfl⟩
  rw [hmk] at HM CM; clear hmk; dsimp only at CM
  go_enter Tryz.func218, Tryz.ntmps218
  go_wp2_with (first | (go_at_call_of 138 (Value.agg #[.int .i64 x.fNum, .int .i64 x.fDen]); refine (c_l02Ok x _ _ GFrac.rd_mk).mono ?_; rintro e w4 ⟨rfl, hb⟩; rw [qx]; have HB4 := hide (bthen HB3.out HB3.out.size hb); have HX4 := hide (HX3.out.below hb HX3.out.lt); have kX := HX4.out.cell; have lX := HX4.out.lt; have fX := HX4.out.free; have HY4 := hide (HY3.out.below hb HY3.out.lt); have kY := HY4.out.cell; have lY := HY4.out.lt; have fY := HY4.out.free; have HZ4 := hide (HZ3.out.below hb HZ3.out.lt); have kZ := HZ4.out.cell; have lZ := HZ4.out.lt; have fZ := HZ4.out.free; clear hb) | (go_at_call_of 138 (Value.agg #[.int .i64 y.fNum, .int .i64 y.fDen]); refine (c_l02Ok y _ _ GFrac.rd_mk).mono ?_; rintro e w5 ⟨rfl, hb⟩; rw [qy]; have HB5 := hide (bthen HB4.out HB4.out.size hb); clear kX kY kZ lX lY lZ fX fY fZ; have HX5 := hide (HX4.out.below hb HX4.out.lt); have kX := HX5.out.cell; have lX := HX5.out.lt; have fX := HX5.out.free; have HY5 := hide (HY4.out.below hb HY4.out.lt); have kY := HY5.out.cell; have lY := HY5.out.lt; have fY := HY5.out.free; have HZ5 := hide (HZ4.out.below hb HZ4.out.lt); have kZ := HZ5.out.cell; have lZ := HZ5.out.lt; have fZ := HZ5.out.free; clear hb) | (go_at_call 238; refine (CM.out _).mono ?_; rintro e w6 ⟨rfl, hb⟩; have HB6 := hide (bthen HB5.out HB5.out.size hb); have HZ6 := hide (HZ5.out.below hb HZ5.out.lt); clear hb kX kY kZ lX lY lZ; have kZ := HZ6.out.cell; have lZ := HZ6.out.lt; have kf := HZ6.out.free))
  refine bodyPost_ret (v := .tuple #[.agg #[.int .i64 mn, .int .i64 md], .int .i64 mc]) (by simp [results, Tryz.results218, go_sem, kZ, lZ, kf]) rfl ?_
  rw [HM.out]; have hb := HB6.out; exact ⟨rfl, (by repeat (first | with_reducible exact Below.refl _ _ | with_reducible assumption | with_reducible refine Below.setCell ?_ (by first | omega | (simp; done) | (simp; omega)) _ | with_reducible refine Below.alloc ?_ (by first | omega | (simp; done) | (simp; omega)) _ | with_reducible refine Below.drew ?_ | with_reducible refine below_drewN ?_ _ | exact Below.refl _ _ | assumption | refine Below.drew ?_ | refine below_drewN ?_ _ | refine Below.alloc ?_ (by first | omega | (simp; done) | (simp; omega)) _ | refine Below.setCell ?_ (by first | omega | (simp; done) | (simp; omega)) _))⟩
set_option maxHeartbeats 1000000 in
set_option maxRecDepth 20000 in
theorem c_MulFrac (x y : GFrac) (w : World) : Calls Tryz.prog 194 #[.agg #[.int .i64 x.fNum, .int .i64 x.fDen], .agg #[.int .i64 y.fNum, .int .i64 y.fDen]] w fun e w' => e = .returned (.tuple #[.agg #[.int .i64 (mulFr x y).1.fNum, .int .i64 (mulFr x y).1.fDen], .int .i64 (mulFr x y).2]) ∧ Below w.heap.size w w' := by
  have HB3 := hide (show Below w.heap.size w (((w.alloc (.cells #[.int .i64 x.fNum, .int .i64 x.fDen] 64)).alloc (.cells #[.int .i64 y.fNum, .int .i64 y.fDen] 64)).alloc (.cells #[.int .i64 0, .int .i64 0] 64)) from ((((Below.refl w.heap.size w).alloc (Nat.le_refl _) (.cells #[.int .i64 x.fNum, .int .i64 x.fDen] 64)).alloc (by simp) (.cells #[.int .i64 y.fNum, .int .i64 y.fDen] 64)).alloc (by simp; omega) (.cells #[.int .i64 0, .int .i64 0] 64)))
  have HX3 := hide (((Bk.born w 64 #[.int .i64 x.fNum, .int .i64 x.fDen]).alloc (.cells #[.int .i64 y.fNum, .int .i64 y.fDen] 64)).alloc (.cells #[.int .i64 0, .int .i64 0] 64))
  have HY3 := hide ((Bk.born1' w (.cells #[.int .i64 x.fNum, .int .i64 x.fDen] 64) 64 #[.int .i64 y.fNum, .int .i64 y.fDen]).alloc (.cells #[.int .i64 0, .int .i64 0] 64))
  have HZ3 : Sec (Bk (((w.alloc (.cells #[.int .i64 x.fNum, .int .i64 x.fDen] 64)).alloc (.cells #[.int .i64 y.fNum, .int .i64 y.fDen] 64)).alloc (.cells #[.int .i64 0, .int .i64 0] 64)) (w.heap.size + 2) 64 #[.int .i64 0, .int .i64 0]) := hide (Bk.born2 w (.cells #[.int .i64 x.fNum, .int .i64 x.fDen] 64) (.cells #[.int .i64 y.fNum, .int .i64 y.fDen] 64) 64 #[.int .i64 0, .int .i64 0])
  have hsz : (((w.alloc (.cells #[.int .i64 x.fNum, .int .i64 x.fDen] 64)).alloc (.cells #[.int .i64 y.fNum, .int .i64 y.fDen] 64)).alloc (.cells #[.int .i64 0, .int .i64 0] 64)).heap.size = w.heap.size + 1 + 1 + 1 := by simp
  generalize hW3 : (((w.alloc (.cells #[.int .i64 x.fNum, .int .i64 x.fDen] 64)).alloc (.cells #[.int .i64 y.fNum, .int .i64 y.fDen] 64)).alloc (.cells #[.int .i64 0, .int .i64 0] 64)) = W3 at *; have HW3 := hide hW3; clear hW3
  have HB4 := hide (HB3.out.alloc HB3.out.size (.cells #[.int .i64 x.fNum, .int .i64 x.fDen, .int .i64 y.fNum, .int .i64 y.fDen] 64))
  have HL4 := hide (Bk.born W3 64 #[.int .i64 x.fNum, .int .i64 x.fDen, .int .i64 y.fNum, .int .i64 y.fDen])
  have HX4 := hide (HX3.out.alloc (.cells #[.int .i64 x.fNum, .int .i64 x.fDen, .int .i64 y.fNum, .int .i64 y.fDen] 64))
  have HY4 := hide (HY3.out.alloc (.cells #[.int .i64 x.fNum, .int .i64 x.fDen, .int .i64 y.fNum, .int .i64 y.fDen] 64))
  have HZ4 := hide (HZ3.out.alloc (.cells #[.int .i64 x.fNum, .int .i64 x.fDen, .int .i64 y.fNum, .int .i64 y.fDen] 64))
  have HRD := hide (fr_rd2 HL4.out)
  by_cases ok : fracOk x ∧ fracOk y
  rotate_left
  ·
    have q1 : tf (Each [x, y] fun _ f => fracOk f) = false := tf_no (fun h => ok ⟨h 0 x rfl, h 1 y rfl⟩)
    have HM := hide (show mulFr x y = (zeroFr, 1) by unfold mulFr; rw [if_neg ok]); clear ok
    go_enter Tryz.func194, Tryz.ntmps194
    go_wp2_with fail
    rw [HW3.out]
    rw [show w.heap.size + 1 + 1 + 1 = W3.heap.size from hsz.symm]
    refine (c_areFracs _ [x, y] _ HRD.out).mono ?_; rintro e w5 ⟨rfl, hb⟩
    rw [q1]
    have HB5 := hide (bthen HB4.out HB4.out.size hb)
    have HX5 := hide (HX4.out.below hb HX4.out.lt); have kX := HX5.out.cell; have lX := HX5.out.lt
    have HY5 := hide (HY4.out.below hb HY4.out.lt); have kY := HY5.out.cell; have lY := HY5.out.lt
    have HZ5 := hide (HZ4.out.below hb HZ4.out.lt); have kZ := HZ5.out.cell; have lZ := HZ5.out.lt
    have kf := HZ5.out.free; clear hb
    go_wp2
    refine bodyPost_ret (v := .tuple #[.agg #[.int .i64 0, .int .i64 0], .int .i64 1]) (by simp [results, Tryz.results194, go_sem, kZ, lZ, kf]) rfl ?_
    rw [HM.out]; have hb := HB5.out; exact ⟨rfl, (by repeat (first | with_reducible exact Below.refl _ _ | with_reducible assumption | with_reducible refine Below.setCell ?_ (by first | omega | (simp; done) | (simp; omega)) _ | with_reducible refine Below.alloc ?_ (by first | omega | (simp; done) | (simp; omega)) _ | with_reducible refine Below.drew ?_ | with_reducible refine below_drewN ?_ _ | exact Below.refl _ _ | assumption | refine Below.drew ?_ | refine below_drewN ?_ _ | refine Below.alloc ?_ (by first | omega | (simp; done) | (simp; omega)) _ | refine Below.setCell ?_ (by first | omega | (simp; done) | (simp; omega)) _))⟩
  have q1 : tf (Each [x, y] fun _ f => fracOk f) = true := tf_yes (fun i f hf => by
    rcases i with _ | _ | i
    · obtain rfl : x = f := by simpa using hf
      exact ok.1
    · obtain rfl : y = f := by simpa using hf
      exact ok.2
    · simp at hf)
  have HM := hide (show mulFr x y = mkFr (x.fNum * y.fNum) (x.fDen * y.fDen) by unfold mulFr; rw [if_pos ok])
  obtain ⟨hx, hy⟩ := ok
  obtain ⟨⟨x1, x2⟩, ⟨x3, x4⟩, -⟩ := hx
  obtain ⟨⟨y1, y2⟩, ⟨y3, y4⟩, -⟩ := hy
  have pA := prod_bnd (A := 1000000000) (B := 1000000) ⟨x3, x4⟩ ⟨by omega, y2⟩
  have pB := prod_bnd (A := 1000000000) (B := 1000000) ⟨y3, y4⟩ ⟨by omega, x2⟩
  have pC := prod_bnd (A := 1000000000) (B := 1000000) (x := x.fDen) (y := y.fDen) ⟨by omega, by omega⟩ ⟨by omega, y2⟩
  have pD := prod_abs (A := 1000000000) (B := 1000000000) ⟨x3, x4⟩ ⟨y3, y4⟩
  have e0 : IntKind.i64.wrap (x.fNum * y.fNum) = x.fNum * y.fNum := IntWalk.i64_in _ (by omega)
  have e1 : IntKind.i64.wrap (x.fDen * y.fDen) = x.fDen * y.fDen := IntWalk.i64_in _ (by omega)
  have CM := hide (fun W => c_MakeFrac ((x.fNum * y.fNum)) ((x.fDen * y.fDen)) W (by omega) (by omega))
  clear pA pB pC x1 x2 x3 x4 y1 y2 y3 y4 pD
  obtain ⟨⟨mn, md⟩, mc, hmk⟩ : ∃ f c, mkFr (x.fNum * y.fNum) (x.fDen * y.fDen) = (f, c) := ⟨_, _, rfl⟩
  rw [hmk] at HM CM; clear hmk; dsimp only at CM
  go_enter Tryz.func194, Tryz.ntmps194
  go_wp2_with fail
  rw [HW3.out]
  rw [show w.heap.size + 1 + 1 + 1 = W3.heap.size from hsz.symm]
  refine (c_areFracs _ [x, y] _ HRD.out).mono ?_; rintro e w5 ⟨rfl, hb⟩
  rw [q1]
  have HB5 := hide (bthen HB4.out HB4.out.size hb)
  have HX5 := hide (HX4.out.below hb HX4.out.lt); have kX := HX5.out.cell; have lX := HX5.out.lt
  have HY5 := hide (HY4.out.below hb HY4.out.lt); have kY := HY5.out.cell; have lY := HY5.out.lt
  have HZ5 := hide (HZ4.out.below hb HZ4.out.lt); have kZ := HZ5.out.cell; have lZ := HZ5.out.lt
  have kf := HZ5.out.free; clear hb
  go_wp2_with (go_at_call 223; refine (CM.out _).mono ?_; rintro e w6 ⟨rfl, hb⟩; have HB6 := hide (bthen HB5.out HB5.out.size hb); have HZ6 := hide (HZ5.out.below hb HZ5.out.lt); clear hb kX kY kZ lX lY lZ; have kZ := HZ6.out.cell; have lZ := HZ6.out.lt; have kf := HZ6.out.free)
  refine bodyPost_ret (v := .tuple #[.agg #[.int .i64 mn, .int .i64 md], .int .i64 mc]) (by simp [results, Tryz.results194, go_sem, kZ, lZ, kf]) rfl ?_
  rw [HM.out]; have hb := HB6.out; exact ⟨rfl, (by repeat (first | with_reducible exact Below.refl _ _ | with_reducible assumption | with_reducible refine Below.setCell ?_ (by first | omega | (simp; done) | (simp; omega)) _ | with_reducible refine Below.alloc ?_ (by first | omega | (simp; done) | (simp; omega)) _ | with_reducible refine Below.drew ?_ | with_reducible refine below_drewN ?_ _ | exact Below.refl _ _ | assumption | refine Below.drew ?_ | refine below_drewN ?_ _ | refine Below.alloc ?_ (by first | omega | (simp; done) | (simp; omega)) _ | refine Below.setCell ?_ (by first | omega | (simp; done) | (simp; omega)) _))⟩
set_option maxHeartbeats 1000000 in
set_option maxRecDepth 20000 in
theorem c_sMulFrac (x y : GFrac) (w : World) : Calls Tryz.prog 219 #[.agg #[.int .i64 x.fNum, .int .i64 x.fDen], .agg #[.int .i64 y.fNum, .int .i64 y.fDen]] w fun e w' => e = .returned (.tuple #[.agg #[.int .i64 (mulFr x y).1.fNum, .int .i64 (mulFr x y).1.fDen], .int .i64 (mulFr x y).2]) ∧ Below w.heap.size w w' := by
  have HB3 := hide (show Below w.heap.size w (((w.alloc (.cells #[.int .i64 x.fNum, .int .i64 x.fDen] 64)).alloc (.cells #[.int .i64 y.fNum, .int .i64 y.fDen] 64)).alloc (.cells #[.int .i64 0, .int .i64 0] 64)) from ((((Below.refl w.heap.size w).alloc (Nat.le_refl _) (.cells #[.int .i64 x.fNum, .int .i64 x.fDen] 64)).alloc (by simp) (.cells #[.int .i64 y.fNum, .int .i64 y.fDen] 64)).alloc (by simp; omega) (.cells #[.int .i64 0, .int .i64 0] 64)))
  have HX3 := hide (((Bk.born w 64 #[.int .i64 x.fNum, .int .i64 x.fDen]).alloc (.cells #[.int .i64 y.fNum, .int .i64 y.fDen] 64)).alloc (.cells #[.int .i64 0, .int .i64 0] 64))
  have HY3 := hide ((Bk.born1' w (.cells #[.int .i64 x.fNum, .int .i64 x.fDen] 64) 64 #[.int .i64 y.fNum, .int .i64 y.fDen]).alloc (.cells #[.int .i64 0, .int .i64 0] 64))
  have HZ3 : Sec (Bk (((w.alloc (.cells #[.int .i64 x.fNum, .int .i64 x.fDen] 64)).alloc (.cells #[.int .i64 y.fNum, .int .i64 y.fDen] 64)).alloc (.cells #[.int .i64 0, .int .i64 0] 64)) (w.heap.size + 2) 64 #[.int .i64 0, .int .i64 0]) := hide (Bk.born2 w (.cells #[.int .i64 x.fNum, .int .i64 x.fDen] 64) (.cells #[.int .i64 y.fNum, .int .i64 y.fDen] 64) 64 #[.int .i64 0, .int .i64 0])
  by_cases ok : fracOk x ∧ fracOk y
  rotate_left
  ·
    have HM := hide (show mulFr x y = (zeroFr, 1) by unfold mulFr; rw [if_neg ok])
    by_cases okx : fracOk x
    ·
      have qx := tf_yes okx; have qy := tf_no (fun h => ok ⟨okx, h⟩); clear ok okx
      go_enter Tryz.func219, Tryz.ntmps219
      go_wp2_with (first | (go_at_call_of 138 (Value.agg #[.int .i64 x.fNum, .int .i64 x.fDen]); refine (c_l02Ok x _ _ GFrac.rd_mk).mono ?_; rintro e w4 ⟨rfl, hb⟩; rw [qx]; have HB4 := hide (bthen HB3.out HB3.out.size hb); have HX4 := hide (HX3.out.below hb HX3.out.lt); have kX := HX4.out.cell; have lX := HX4.out.lt; have fX := HX4.out.free; have HY4 := hide (HY3.out.below hb HY3.out.lt); have kY := HY4.out.cell; have lY := HY4.out.lt; have fY := HY4.out.free; have HZ4 := hide (HZ3.out.below hb HZ3.out.lt); have kZ := HZ4.out.cell; have lZ := HZ4.out.lt; have fZ := HZ4.out.free; clear hb) | (go_at_call_of 138 (Value.agg #[.int .i64 y.fNum, .int .i64 y.fDen]); refine (c_l02Ok y _ _ GFrac.rd_mk).mono ?_; rintro e w5 ⟨rfl, hb⟩; rw [qy]; have HB5 := hide (bthen HB4.out HB4.out.size hb); clear kX kY kZ lX lY lZ fX fY fZ; have HX5 := hide (HX4.out.below hb HX4.out.lt); have kX := HX5.out.cell; have lX := HX5.out.lt; have fX := HX5.out.free; have HY5 := hide (HY4.out.below hb HY4.out.lt); have kY := HY5.out.cell; have lY := HY5.out.lt; have fY := HY5.out.free; have HZ5 := hide (HZ4.out.below hb HZ4.out.lt); have kZ := HZ5.out.cell; have lZ := HZ5.out.lt; have fZ := HZ5.out.free; clear hb))
      refine bodyPost_ret (v := .tuple #[.agg #[.int .i64 0, .int .i64 0], .int .i64 1]) (by simp [results, Tryz.results219, go_sem, kZ, lZ, fZ]) rfl ?_
      rw [HM.out]; have hb := HB5.out; exact ⟨rfl, (by repeat (first | with_reducible exact Below.refl _ _ | with_reducible assumption | with_reducible refine Below.setCell ?_ (by first | omega | (simp; done) | (simp; omega)) _ | with_reducible refine Below.alloc ?_ (by first | omega | (simp; done) | (simp; omega)) _ | with_reducible refine Below.drew ?_ | with_reducible refine below_drewN ?_ _ | exact Below.refl _ _ | assumption | refine Below.drew ?_ | refine below_drewN ?_ _ | refine Below.alloc ?_ (by first | omega | (simp; done) | (simp; omega)) _ | refine Below.setCell ?_ (by first | omega | (simp; done) | (simp; omega)) _))⟩
    have qx := tf_no okx; clear ok okx
    go_enter Tryz.func219, Tryz.ntmps219
    go_wp2_with (go_at_call_of 138 (Value.agg #[.int .i64 x.fNum, .int .i64 x.fDen]); refine (c_l02Ok x _ _ GFrac.rd_mk).mono ?_; rintro e w4 ⟨rfl, hb⟩; rw [qx]; have HB4 := hide (bthen HB3.out HB3.out.size hb); have HX4 := hide (HX3.out.below hb HX3.out.lt); have kX := HX4.out.cell; have lX := HX4.out.lt; have fX := HX4.out.free; have HY4 := hide (HY3.out.below hb HY3.out.lt); have kY := HY4.out.cell; have lY := HY4.out.lt; have fY := HY4.out.free; have HZ4 := hide (HZ3.out.below hb HZ3.out.lt); have kZ := HZ4.out.cell; have lZ := HZ4.out.lt; have fZ := HZ4.out.free; clear hb)
    refine bodyPost_ret (v := .tuple #[.agg #[.int .i64 0, .int .i64 0], .int .i64 1]) (by simp [results, Tryz.results219, go_sem, kZ, lZ, fZ]) rfl ?_
    rw [HM.out]; have hb := HB4.out; exact ⟨rfl, (by repeat (first | with_reducible exact Below.refl _ _ | with_reducible assumption | with_reducible refine Below.setCell ?_ (by first | omega | (simp; done) | (simp; omega)) _ | with_reducible refine Below.alloc ?_ (by first | omega | (simp; done) | (simp; omega)) _ | with_reducible refine Below.drew ?_ | with_reducible refine below_drewN ?_ _ | exact Below.refl _ _ | assumption | refine Below.drew ?_ | refine below_drewN ?_ _ | refine Below.alloc ?_ (by first | omega | (simp; done) | (simp; omega)) _ | refine Below.setCell ?_ (by first | omega | (simp; done) | (simp; omega)) _))⟩
  have qx := tf_yes ok.1; have qy := tf_yes ok.2
  have HM := hide (show mulFr x y = mkFr (x.fNum * y.fNum) (x.fDen * y.fDen) by unfold mulFr; rw [if_pos ok])
  obtain ⟨hx, hy⟩ := ok
  obtain ⟨⟨x1, x2⟩, ⟨x3, x4⟩, -⟩ := hx
  obtain ⟨⟨y1, y2⟩, ⟨y3, y4⟩, -⟩ := hy
  have pA := prod_bnd (A := 1000000000) (B := 1000000) ⟨x3, x4⟩ ⟨by omega, y2⟩
  have pB := prod_bnd (A := 1000000000) (B := 1000000) ⟨y3, y4⟩ ⟨by omega, x2⟩
  have pC := prod_bnd (A := 1000000000) (B := 1000000) (x := x.fDen) (y := y.fDen) ⟨by omega, by omega⟩ ⟨by omega, y2⟩
  have pD := prod_abs (A := 1000000000) (B := 1000000000) ⟨x3, x4⟩ ⟨y3, y4⟩
  have e0 : IntKind.i64.wrap (x.fNum * y.fNum) = x.fNum * y.fNum := IntWalk.i64_in _ (by omega)
  have e1 : IntKind.i64.wrap (x.fDen * y.fDen) = x.fDen * y.fDen := IntWalk.i64_in _ (by omega)
  have CM := hide (fun W => c_sMakeFrac ((x.fNum * y.fNum)) ((x.fDen * y.fDen)) W (by omega) (by omega))
  clear pA pB pC x1 x2 x3 x4 y1 y2 y3 y4 pD
  obtain ⟨⟨mn, md⟩, mc, hmk⟩ : ∃ f c, mkFr (x.fNum * y.fNum) (x.fDen * y.fDen) = (f, c) := ⟨_, _, rfl⟩
  rw [hmk] at HM CM; clear hmk; dsimp only at CM
  go_enter Tryz.func219, Tryz.ntmps219
  go_wp2_with (first | (go_at_call_of 138 (Value.agg #[.int .i64 x.fNum, .int .i64 x.fDen]); refine (c_l02Ok x _ _ GFrac.rd_mk).mono ?_; rintro e w4 ⟨rfl, hb⟩; rw [qx]; have HB4 := hide (bthen HB3.out HB3.out.size hb); have HX4 := hide (HX3.out.below hb HX3.out.lt); have kX := HX4.out.cell; have lX := HX4.out.lt; have fX := HX4.out.free; have HY4 := hide (HY3.out.below hb HY3.out.lt); have kY := HY4.out.cell; have lY := HY4.out.lt; have fY := HY4.out.free; have HZ4 := hide (HZ3.out.below hb HZ3.out.lt); have kZ := HZ4.out.cell; have lZ := HZ4.out.lt; have fZ := HZ4.out.free; clear hb) | (go_at_call_of 138 (Value.agg #[.int .i64 y.fNum, .int .i64 y.fDen]); refine (c_l02Ok y _ _ GFrac.rd_mk).mono ?_; rintro e w5 ⟨rfl, hb⟩; rw [qy]; have HB5 := hide (bthen HB4.out HB4.out.size hb); clear kX kY kZ lX lY lZ fX fY fZ; have HX5 := hide (HX4.out.below hb HX4.out.lt); have kX := HX5.out.cell; have lX := HX5.out.lt; have fX := HX5.out.free; have HY5 := hide (HY4.out.below hb HY4.out.lt); have kY := HY5.out.cell; have lY := HY5.out.lt; have fY := HY5.out.free; have HZ5 := hide (HZ4.out.below hb HZ4.out.lt); have kZ := HZ5.out.cell; have lZ := HZ5.out.lt; have fZ := HZ5.out.free; clear hb) | (go_at_call 238; refine (CM.out _).mono ?_; rintro e w6 ⟨rfl, hb⟩; have HB6 := hide (bthen HB5.out HB5.out.size hb); have HZ6 := hide (HZ5.out.below hb HZ5.out.lt); clear hb kX kY kZ lX lY lZ; have kZ := HZ6.out.cell; have lZ := HZ6.out.lt; have kf := HZ6.out.free))
  refine bodyPost_ret (v := .tuple #[.agg #[.int .i64 mn, .int .i64 md], .int .i64 mc]) (by simp [results, Tryz.results219, go_sem, kZ, lZ, kf]) rfl ?_
  rw [HM.out]; have hb := HB6.out; exact ⟨rfl, (by repeat (first | with_reducible exact Below.refl _ _ | with_reducible assumption | with_reducible refine Below.setCell ?_ (by first | omega | (simp; done) | (simp; omega)) _ | with_reducible refine Below.alloc ?_ (by first | omega | (simp; done) | (simp; omega)) _ | with_reducible refine Below.drew ?_ | with_reducible refine below_drewN ?_ _ | exact Below.refl _ _ | assumption | refine Below.drew ?_ | refine below_drewN ?_ _ | refine Below.alloc ?_ (by first | omega | (simp; done) | (simp; omega)) _ | refine Below.setCell ?_ (by first | omega | (simp; done) | (simp; omega)) _))⟩
end Go.Proofs.YteiflbhcehajkaaGreatDoor
