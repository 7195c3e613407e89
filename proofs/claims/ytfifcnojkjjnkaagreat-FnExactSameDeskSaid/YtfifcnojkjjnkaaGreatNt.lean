/- Contracts: which nested data are the same, by the program. -/
import Derived.Test.YtfifcnojkjjnkaaGreatNr
import Derived.Deep.RegionHeld3
namespace Go.Proofs.YtfifcnojkjjnkaaGreat
open Go.RowKit
set_option maxHeartbeats 2000000 in
set_option maxRecDepth 20000 in
theorem c_iSamePatch (a b : GPatch) (v1 : Value) (v2 : Value) (v3 : Value) (u1 : Value) (u2 : Value) (u3 : Value) (w : World) (r1 : T.rd w (T.sl 33 1 (a.fTables.map (T.ints 2))) [v1]) (r2 : T.rd w (T.sl 228 4 (a.fNodes.map GNode.t)) [v2]) (r3 : T.rd w (T.ints 2 a.fOutputs) [v3]) (t1 : T.rd w (T.sl 33 1 (b.fTables.map (T.ints 2))) [u1]) (t2 : T.rd w (T.sl 228 4 (b.fNodes.map GNode.t)) [u2]) (t3 : T.rd w (T.ints 2 b.fOutputs) [u3]) :
    Calls Tryz.prog 130 #[.agg #[.int .i64 a.fInputs, v1, v2, v3], .agg #[.int .i64 b.fInputs, u1, u2, u3]] w fun e w' => e = .returned (.bool (decide (a = b))) ∧ Below w.heap.size w w' := by
  have hab : decide (a = b) = (decide (a.fInputs = b.fInputs) && (decide (a.fTables = b.fTables) && (decide (a.fOutputs = b.fOutputs) && (decide (a.fNodes = b.fNodes))))) := by
    obtain ⟨x0, x1, x2, x3⟩ := a
    obtain ⟨y0, y1, y2, y3⟩ := b
    rw [Bool.eq_iff_iff]
    simp only [GPatch.mk.injEq, decide_eq_true_eq, Bool.and_eq_true]
    try (constructor <;> (intro h; simp [h]))
  have R1 := hide r1; have Q1 := hide t1
  have R2 := hide r2; have Q2 := hide t2
  have R3 := hide r3; have Q3 := hide t3
  obtain ⟨va1, vl1, vc1, rfl⟩ := T.rd_slice r1
  obtain ⟨ua1, ul1, uc1, rfl⟩ := T.rd_slice t1
  obtain ⟨va2, vc2, rfl, hla2, hca2, hxa2⟩ := T.rd_open r2
  obtain ⟨ua2, uc2, rfl, hlb2, hcb2, hxb2⟩ := T.rd_open t2
  rw [List.length_map] at hla2 hlb2 R2 Q2 ⊢
  rw [List.length_map]
  have HXA2 := hide hxa2; have HXB2 := hide hxb2; clear hxa2 hxb2
  obtain ⟨va3, vl3, vc3, rfl⟩ := T.rd_slice r3
  obtain ⟨ua3, ul3, uc3, rfl⟩ := T.rd_slice t3
  clear r1 t1 r2 t2 r3 t3
  have HAB := hide hab; clear hab
  have HB0 := hide (show Below w.heap.size w ((w.alloc (.cells #[.int .i64 a.fInputs, (.slice va1 vl1 vc1), (.slice va2 a.fNodes.length vc2), (.slice va3 vl3 vc3)] 157)).alloc (.cells #[.int .i64 b.fInputs, (.slice ua1 ul1 uc1), (.slice ua2 b.fNodes.length uc2), (.slice ua3 ul3 uc3)] 157)) from ((Below.refl _ _).alloc (Nat.le_refl _) _).alloc (by first | (simp; done) | (simp; omega) | omega) _)
  have HKA0 := hide ((Bk.born w 157 #[.int .i64 a.fInputs, (.slice va1 vl1 vc1), (.slice va2 a.fNodes.length vc2), (.slice va3 vl3 vc3)]).alloc (.cells #[.int .i64 b.fInputs, (.slice ua1 ul1 uc1), (.slice ua2 b.fNodes.length uc2), (.slice ua3 ul3 uc3)] 157))
  have HKB0 := hide (Bk.born1' w (.cells #[.int .i64 a.fInputs, (.slice va1 vl1 vc1), (.slice va2 a.fNodes.length vc2), (.slice va3 vl3 vc3)] 157) 157 #[.int .i64 b.fInputs, (.slice ua1 ul1 uc1), (.slice ua2 b.fNodes.length uc2), (.slice ua3 ul3 uc3)])
  by_cases h0 : a.fInputs = b.fInputs
  · have e0 : (a.fInputs != b.fInputs) = false := by simp [h0]
    have H0 := hide h0; clear h0
    by_cases h1 : a.fTables = b.fTables
    · have c1 : decide (a.fTables = b.fTables) = true := by simp [h1]
      have H1 := hide h1; clear h1
      by_cases h2 : a.fOutputs = b.fOutputs
      · have c2 : decide (a.fOutputs = b.fOutputs) = true := by simp [h2]
        have H2 := hide h2; clear h2
        by_cases h3 : a.fNodes.length = b.fNodes.length
        · have e3 : ((a.fNodes.length : Int) != (b.fNodes.length : Int)) = false := by simp; omega
          have HL2 := hide h3; clear h3
          go_enter Tryz.func130, Tryz.ntmps130
          go_wp2_with fail
          refine (c_sameAll _ _ a.fTables b.fTables _ (T.rd_below R1.out HB0.out) (T.rd_below Q1.out HB0.out)).mono ?_; rintro e w1 ⟨rfl, hd⟩; rw [c1]
          have hb : Below ((w.alloc (.cells #[.int .i64 a.fInputs, (.slice va1 vl1 vc1), (.slice va2 a.fNodes.length vc2), (.slice va3 vl3 vc3)] 157)).alloc (.cells #[.int .i64 b.fInputs, (.slice ua1 ul1 uc1), (.slice ua2 b.fNodes.length uc2), (.slice ua3 ul3 uc3)] 157)).heap.size ((w.alloc (.cells #[.int .i64 a.fInputs, (.slice va1 vl1 vc1), (.slice va2 a.fNodes.length vc2), (.slice va3 vl3 vc3)] 157)).alloc (.cells #[.int .i64 b.fInputs, (.slice ua1 ul1 uc1), (.slice ua2 b.fNodes.length uc2), (.slice ua3 ul3 uc3)] 157)) w1 := by first | exact hd.to_below _ | exact hd
          have HKA1 := hide (HKA0.out.below hb HKA0.out.lt); have HKB1 := hide (HKB0.out.below hb HKB0.out.lt); have HB1 := hide (bthen HB0.out HB0.out.size hb); clear hb hd
          have ka1 := HKA1.out.cell; have kb1 := HKB1.out.cell
          go_wp2_with fail
          refine (c_same _ _ a.fOutputs b.fOutputs _ (T.rd_ints.1 (T.rd_below R3.out HB1.out)) (T.rd_ints.1 (T.rd_below Q3.out HB1.out))).mono ?_; rintro e w2 ⟨rfl, hd⟩; rw [c2]
          have hb : Below w1.heap.size w1 w2 := by first | exact hd.to_below _ | exact hd
          have HKA2 := hide (HKA1.out.below hb HKA1.out.lt); have HKB2 := hide (HKB1.out.below hb HKB1.out.lt); have HB2 := hide (bthen HB1.out HB1.out.size hb); clear hb hd
          have ka2 := HKA2.out.cell; have kb2 := HKB2.out.cell
          go_wp2
          go_loopw [40] (fun i wr => ∃ k : Nat, k ≤ a.fNodes.length ∧ i = .int .i64 k ∧ a.fNodes.take k = b.fNodes.take k ∧ Below w2.heap.size w2 wr) (fun i _ => a.fNodes.length - (intOf i).toNat)
          case atStart => exact ⟨0, Nat.zero_le _, rfl, rfl, Below.refl _ _⟩
          case round =>
            obtain ⟨k, hk, rfl, hs, hbw⟩ := hrel
            have HS := hide hs; have HW := hide hbw; clear hs hbw
            have HB := hide (bthen HB2.out HB2.out.size HW.out)
            have HKA := hide (HKA2.out.below HW.out HKA2.out.lt); have HKB := hide (HKB2.out.below HW.out HKB2.out.lt)
            have ka := HKA.out.cell; have kb := HKB.out.cell
            have la : w.heap.size < wr.heap.size := HKA.out.lt
            have lb : w.heap.size + 1 < wr.heap.size := HKB.out.lt
            by_cases hlt : k < a.fNodes.length
            · have hlt2 : k < b.fNodes.length := by have := HL2.out; omega
              obtain ⟨b1, o1, cs1, hA1, hbw1, hcs1, hcell1⟩ := HXA2.out k (GNode.t a.fNodes[k]) (by rw [List.getElem?_map, List.getElem?_eq_getElem hlt]; rfl)
              obtain ⟨b2, o2, cs2, hA2, hbw2, hcs2, hcell2⟩ := HXB2.out k (GNode.t b.fNodes[k]) (by rw [List.getElem?_map, List.getElem?_eq_getElem hlt2]; rfl)
              subst hA1 hA2
              have hg1 := List.getElem?_eq_getElem hlt
              have hg2 := List.getElem?_eq_getElem hlt2
              generalize a.fNodes[k] = x at *
              generalize b.fNodes[k] = y at *
              have HG1 := hide hg1; have HG2 := hide hg2; clear hg1 hg2
              obtain ⟨p3, rfl, hR13⟩ := GNode.rd_open (show T.rds _ _ _ by simpa only [GNode.t, T.rd] using hcs1)
              have d10 := (HB.out.cell hbw1).trans (hcell1 0 (.int .i64 x.fKind) rfl)
              have d11 := (HB.out.cell hbw1).trans (hcell1 1 (.int .i64 x.fA) rfl)
              have d12 := (HB.out.cell hbw1).trans (hcell1 2 (.int .i64 x.fB) rfl)
              have d13 := (HB.out.cell hbw1).trans (hcell1 3 (p3) rfl)
              rw [show o1 + (k * 4 + 0) = o1 + k * 4 by omega] at d10
              rw [show o1 + (k * 4 + 1) = o1 + k * 4 + 1 by omega] at d11
              rw [show o1 + (k * 4 + 2) = o1 + k * 4 + 2 by omega] at d12
              rw [show o1 + (k * 4 + 3) = o1 + k * 4 + 3 by omega] at d13
              have R13 := hide (T.rd_below hR13 HB.out); clear hR13
              clear hcs1 hcell1
              have hq1 : b1 < wr.heap.size := Nat.lt_of_lt_of_le hbw1 HB.out.size
              obtain ⟨pa3, pl3, pc3, rfl⟩ := T.rd_slice R13.out
              obtain ⟨q3, rfl, hR23⟩ := GNode.rd_open (show T.rds _ _ _ by simpa only [GNode.t, T.rd] using hcs2)
              have d20 := (HB.out.cell hbw2).trans (hcell2 0 (.int .i64 y.fKind) rfl)
              have d21 := (HB.out.cell hbw2).trans (hcell2 1 (.int .i64 y.fA) rfl)
              have d22 := (HB.out.cell hbw2).trans (hcell2 2 (.int .i64 y.fB) rfl)
              have d23 := (HB.out.cell hbw2).trans (hcell2 3 (q3) rfl)
              rw [show o2 + (k * 4 + 0) = o2 + k * 4 by omega] at d20
              rw [show o2 + (k * 4 + 1) = o2 + k * 4 + 1 by omega] at d21
              rw [show o2 + (k * 4 + 2) = o2 + k * 4 + 2 by omega] at d22
              rw [show o2 + (k * 4 + 3) = o2 + k * 4 + 3 by omega] at d23
              have R23 := hide (T.rd_below hR23 HB.out); clear hR23
              clear hcs2 hcell2
              have hq2 : b2 < wr.heap.size := Nat.lt_of_lt_of_le hbw2 HB.out.size
              obtain ⟨qa3, ql3, qc3, rfl⟩ := T.rd_slice R23.out
              have hW := HW.out
              have hB := HB.out
              by_cases he : x = y
              · have hde : decide (x = y) = true := decide_eq_true he
                have HE := hide he; clear he
                go_wp2
                go_region_held3 (fun w' => w'.cell? ⟨wr.heap.size, 0, none⟩ = some (.int .i64 x.fKind) ∧ w'.cell? ⟨wr.heap.size, 1, none⟩ = some (.int .i64 x.fA) ∧ w'.cell? ⟨wr.heap.size, 2, none⟩ = some (.int .i64 x.fB) ∧ w'.cell? ⟨wr.heap.size, 3, none⟩ = some ((.slice pa3 pl3 pc3)) ∧ w'.cell? ⟨w.heap.size + 1, 2, none⟩ = some (.slice (some ⟨b2, o2, none⟩) b.fNodes.length uc2) ∧ w'.cell? ⟨b2, o2 + k * 4, none⟩ = some (.int .i64 y.fKind) ∧ w'.cell? ⟨b2, o2 + k * 4 + 1, none⟩ = some (.int .i64 y.fA) ∧ w'.cell? ⟨b2, o2 + k * 4 + 2, none⟩ = some (.int .i64 y.fB) ∧ w'.cell? ⟨b2, o2 + k * 4 + 3, none⟩ = some ((.slice qa3 ql3 qc3))) (first | go_keep | (refine ⟨(hb3.cell ?_).trans ?_, (hb3.cell ?_).trans ?_, (hb3.cell ?_).trans ?_, (hb3.cell ?_).trans ?_, (hb3.cell ?_).trans ?_, (hb3.cell ?_).trans ?_, (hb3.cell ?_).trans ?_, (hb3.cell ?_).trans ?_, (hb3.cell ?_).trans ?_⟩ <;> first | assumption | (simp [*]; done) | (simp; omega))) (first | (go_at_call 202; refine (c_iSameNode x y _ _ _ (T.rd_below R13.out (by repeat (first | with_reducible exact Below.refl _ _ | with_reducible refine Below.alloc ?_ (Nat.le_refl _) _ | with_reducible refine Below.drew ?_ | with_reducible refine below_drewN ?_ _))) (T.rd_below R23.out (by repeat (first | with_reducible exact Below.refl _ _ | with_reducible refine Below.alloc ?_ (Nat.le_refl _) _ | with_reducible refine Below.drew ?_ | with_reducible refine below_drewN ?_ _)))).mono ?_; rintro e w3 ⟨rfl, hb3⟩; rw [hde]))
                have hb4 : Below wr.heap.size wr w3 := by first | exact below_of_alloc hb3 | exact below_of_alloc (undrew hb3) | exact below_of_alloc (undrewN hb3) | exact hb3 | exact undrew hb3 | exact undrewN hb3
                have HC := hide (bthen HW.out HW.out.size hb4); have HC2 := hide (bthen HB.out HB.out.size hb4); clear hb4 hb3
                go_wp2
                go_roundw
                case rel => exact ⟨k + 1, by omega, by go_num, takes_succ HS.out HG1.out (by rw [HE.out]; exact HG2.out), (by first | exact HC.out | exact HC.out.drew | exact below_drewN HC.out _)⟩
                case measure => simp [intOf]; omega
              · have hde : decide (x = y) = false := decide_eq_false he
                have HE := hide he; clear he
                go_wp2
                go_region_held3 (fun w' => w'.cell? ⟨wr.heap.size, 0, none⟩ = some (.int .i64 x.fKind) ∧ w'.cell? ⟨wr.heap.size, 1, none⟩ = some (.int .i64 x.fA) ∧ w'.cell? ⟨wr.heap.size, 2, none⟩ = some (.int .i64 x.fB) ∧ w'.cell? ⟨wr.heap.size, 3, none⟩ = some ((.slice pa3 pl3 pc3)) ∧ w'.cell? ⟨w.heap.size + 1, 2, none⟩ = some (.slice (some ⟨b2, o2, none⟩) b.fNodes.length uc2) ∧ w'.cell? ⟨b2, o2 + k * 4, none⟩ = some (.int .i64 y.fKind) ∧ w'.cell? ⟨b2, o2 + k * 4 + 1, none⟩ = some (.int .i64 y.fA) ∧ w'.cell? ⟨b2, o2 + k * 4 + 2, none⟩ = some (.int .i64 y.fB) ∧ w'.cell? ⟨b2, o2 + k * 4 + 3, none⟩ = some ((.slice qa3 ql3 qc3))) (first | go_keep | (refine ⟨(hb3.cell ?_).trans ?_, (hb3.cell ?_).trans ?_, (hb3.cell ?_).trans ?_, (hb3.cell ?_).trans ?_, (hb3.cell ?_).trans ?_, (hb3.cell ?_).trans ?_, (hb3.cell ?_).trans ?_, (hb3.cell ?_).trans ?_, (hb3.cell ?_).trans ?_⟩ <;> first | assumption | (simp [*]; done) | (simp; omega))) (first | (go_at_call 202; refine (c_iSameNode x y _ _ _ (T.rd_below R13.out (by repeat (first | with_reducible exact Below.refl _ _ | with_reducible refine Below.alloc ?_ (Nat.le_refl _) _ | with_reducible refine Below.drew ?_ | with_reducible refine below_drewN ?_ _))) (T.rd_below R23.out (by repeat (first | with_reducible exact Below.refl _ _ | with_reducible refine Below.alloc ?_ (Nat.le_refl _) _ | with_reducible refine Below.drew ?_ | with_reducible refine below_drewN ?_ _)))).mono ?_; rintro e w3 ⟨rfl, hb3⟩; rw [hde]))
                have hb4 : Below wr.heap.size wr w3 := by first | exact below_of_alloc hb3 | exact below_of_alloc (undrew hb3) | exact below_of_alloc (undrewN hb3) | exact hb3 | exact undrew hb3 | exact undrewN hb3
                have HC := hide (bthen HW.out HW.out.size hb4); have HC2 := hide (bthen HB.out HB.out.size hb4); clear hb4 hb3
                go_wp2
                go_ret
                have hne := ne_at HG1.out HG2.out HE.out
                exact ⟨ret_bool (by rw [HAB.out]; simp [H0.out, H1.out, H2.out, hne]), (by first | exact HC2.out | exact HC2.out.drew | exact below_drewN HC2.out _)⟩
            · have hall := eq_of_takes (k := k) (by omega) HL2.out HS.out
              have HALL2 := hide hall; clear hall
              go_wp2
              go_ret
              exact ⟨ret_bool (by rw [HAB.out]; simp [H0.out, H1.out, H2.out, HALL2.out]), HB.out⟩
        · have e3 : ((a.fNodes.length : Int) != (b.fNodes.length : Int)) = true := by simp; omega
          have H3 := hide (show ¬ a.fNodes = b.fNodes from fun e => h3 (by rw [e])); clear h3
          go_enter Tryz.func130, Tryz.ntmps130
          go_wp2_with fail
          refine (c_sameAll _ _ a.fTables b.fTables _ (T.rd_below R1.out HB0.out) (T.rd_below Q1.out HB0.out)).mono ?_; rintro e w1 ⟨rfl, hd⟩; rw [c1]
          have hb : Below ((w.alloc (.cells #[.int .i64 a.fInputs, (.slice va1 vl1 vc1), (.slice va2 a.fNodes.length vc2), (.slice va3 vl3 vc3)] 157)).alloc (.cells #[.int .i64 b.fInputs, (.slice ua1 ul1 uc1), (.slice ua2 b.fNodes.length uc2), (.slice ua3 ul3 uc3)] 157)).heap.size ((w.alloc (.cells #[.int .i64 a.fInputs, (.slice va1 vl1 vc1), (.slice va2 a.fNodes.length vc2), (.slice va3 vl3 vc3)] 157)).alloc (.cells #[.int .i64 b.fInputs, (.slice ua1 ul1 uc1), (.slice ua2 b.fNodes.length uc2), (.slice ua3 ul3 uc3)] 157)) w1 := by first | exact hd.to_below _ | exact hd
          have HKA1 := hide (HKA0.out.below hb HKA0.out.lt); have HKB1 := hide (HKB0.out.below hb HKB0.out.lt); have HB1 := hide (bthen HB0.out HB0.out.size hb); clear hb hd
          have ka1 := HKA1.out.cell; have kb1 := HKB1.out.cell
          go_wp2_with fail
          refine (c_same _ _ a.fOutputs b.fOutputs _ (T.rd_ints.1 (T.rd_below R3.out HB1.out)) (T.rd_ints.1 (T.rd_below Q3.out HB1.out))).mono ?_; rintro e w2 ⟨rfl, hd⟩; rw [c2]
          have hb : Below w1.heap.size w1 w2 := by first | exact hd.to_below _ | exact hd
          have HKA2 := hide (HKA1.out.below hb HKA1.out.lt); have HKB2 := hide (HKB1.out.below hb HKB1.out.lt); have HB2 := hide (bthen HB1.out HB1.out.size hb); clear hb hd
          have ka2 := HKA2.out.cell; have kb2 := HKB2.out.cell
          go_wp2
          go_ret
          exact ⟨ret_bool (by rw [HAB.out]; simp [H0.out, H1.out, H2.out, H3.out]), HB2.out⟩
      · have c2 : decide (a.fOutputs = b.fOutputs) = false := by simp [h2]
        have H2 := hide h2; clear h2
        go_enter Tryz.func130, Tryz.ntmps130
        go_wp2_with fail
        refine (c_sameAll _ _ a.fTables b.fTables _ (T.rd_below R1.out HB0.out) (T.rd_below Q1.out HB0.out)).mono ?_; rintro e w1 ⟨rfl, hd⟩; rw [c1]
        have hb : Below ((w.alloc (.cells #[.int .i64 a.fInputs, (.slice va1 vl1 vc1), (.slice va2 a.fNodes.length vc2), (.slice va3 vl3 vc3)] 157)).alloc (.cells #[.int .i64 b.fInputs, (.slice ua1 ul1 uc1), (.slice ua2 b.fNodes.length uc2), (.slice ua3 ul3 uc3)] 157)).heap.size ((w.alloc (.cells #[.int .i64 a.fInputs, (.slice va1 vl1 vc1), (.slice va2 a.fNodes.length vc2), (.slice va3 vl3 vc3)] 157)).alloc (.cells #[.int .i64 b.fInputs, (.slice ua1 ul1 uc1), (.slice ua2 b.fNodes.length uc2), (.slice ua3 ul3 uc3)] 157)) w1 := by first | exact hd.to_below _ | exact hd
        have HKA1 := hide (HKA0.out.below hb HKA0.out.lt); have HKB1 := hide (HKB0.out.below hb HKB0.out.lt); have HB1 := hide (bthen HB0.out HB0.out.size hb); clear hb hd
        have ka1 := HKA1.out.cell; have kb1 := HKB1.out.cell
        go_wp2_with fail
        refine (c_same _ _ a.fOutputs b.fOutputs _ (T.rd_ints.1 (T.rd_below R3.out HB1.out)) (T.rd_ints.1 (T.rd_below Q3.out HB1.out))).mono ?_; rintro e w2 ⟨rfl, hd⟩; rw [c2]
        have hb : Below w1.heap.size w1 w2 := by first | exact hd.to_below _ | exact hd
        have HKA2 := hide (HKA1.out.below hb HKA1.out.lt); have HKB2 := hide (HKB1.out.below hb HKB1.out.lt); have HB2 := hide (bthen HB1.out HB1.out.size hb); clear hb hd
        have ka2 := HKA2.out.cell; have kb2 := HKB2.out.cell
        go_wp2
        go_ret
        exact ⟨ret_bool (by rw [HAB.out]; simp [H0.out, H1.out, H2.out]), HB2.out⟩
    · have c1 : decide (a.fTables = b.fTables) = false := by simp [h1]
      have H1 := hide h1; clear h1
      go_enter Tryz.func130, Tryz.ntmps130
      go_wp2_with fail
      refine (c_sameAll _ _ a.fTables b.fTables _ (T.rd_below R1.out HB0.out) (T.rd_below Q1.out HB0.out)).mono ?_; rintro e w1 ⟨rfl, hd⟩; rw [c1]
      have hb : Below ((w.alloc (.cells #[.int .i64 a.fInputs, (.slice va1 vl1 vc1), (.slice va2 a.fNodes.length vc2), (.slice va3 vl3 vc3)] 157)).alloc (.cells #[.int .i64 b.fInputs, (.slice ua1 ul1 uc1), (.slice ua2 b.fNodes.length uc2), (.slice ua3 ul3 uc3)] 157)).heap.size ((w.alloc (.cells #[.int .i64 a.fInputs, (.slice va1 vl1 vc1), (.slice va2 a.fNodes.length vc2), (.slice va3 vl3 vc3)] 157)).alloc (.cells #[.int .i64 b.fInputs, (.slice ua1 ul1 uc1), (.slice ua2 b.fNodes.length uc2), (.slice ua3 ul3 uc3)] 157)) w1 := by first | exact hd.to_below _ | exact hd
      have HKA1 := hide (HKA0.out.below hb HKA0.out.lt); have HKB1 := hide (HKB0.out.below hb HKB0.out.lt); have HB1 := hide (bthen HB0.out HB0.out.size hb); clear hb hd
      have ka1 := HKA1.out.cell; have kb1 := HKB1.out.cell
      go_wp2
      go_ret
      exact ⟨ret_bool (by rw [HAB.out]; simp [H0.out, H1.out]), HB1.out⟩
  · have e0 : (a.fInputs != b.fInputs) = true := by simp [h0]
    have H0 := hide h0; clear h0
    go_enter Tryz.func130, Tryz.ntmps130
    go_wp2
    go_ret
    exact ⟨ret_bool (by rw [HAB.out]; simp [H0.out]), HB0.out⟩
set_option maxHeartbeats 2000000 in
set_option maxRecDepth 20000 in
theorem c_iSameStrip (a b : GStrip) (v2 : Value) (u2 : Value) (w : World) (r2 : T.rd w (T.sl 148 2 (a.fSends.map GSend.t)) [v2]) (t2 : T.rd w (T.sl 148 2 (b.fSends.map GSend.t)) [u2]) :
    Calls Tryz.prog 200 #[.agg #[.string a.fName, .int .i64 a.fLatency, v2], .agg #[.string b.fName, .int .i64 b.fLatency, u2]] w fun e w' => e = .returned (.bool (decide (a = b))) ∧ Below w.heap.size w w' := by
  have hab : decide (a = b) = (decide (a.fName = b.fName) && (decide (a.fLatency = b.fLatency) && (decide (a.fSends = b.fSends)))) := by
    obtain ⟨x0, x1, x2⟩ := a
    obtain ⟨y0, y1, y2⟩ := b
    rw [Bool.eq_iff_iff]
    simp only [GStrip.mk.injEq, decide_eq_true_eq, Bool.and_eq_true]
    try (constructor <;> (intro h; simp [h]))
  have R2 := hide r2; have Q2 := hide t2
  obtain ⟨va2, vc2, rfl, hla2, hca2, hxa2⟩ := T.rd_open r2
  obtain ⟨ua2, uc2, rfl, hlb2, hcb2, hxb2⟩ := T.rd_open t2
  rw [List.length_map] at hla2 hlb2 R2 Q2 ⊢
  rw [List.length_map]
  have HXA2 := hide hxa2; have HXB2 := hide hxb2; clear hxa2 hxb2
  clear r2 t2
  have HAB := hide hab; clear hab
  have HB0 := hide (show Below w.heap.size w ((w.alloc (.cells #[.string a.fName, .int .i64 a.fLatency, (.slice va2 a.fSends.length vc2)] 151)).alloc (.cells #[.string b.fName, .int .i64 b.fLatency, (.slice ua2 b.fSends.length uc2)] 151)) from ((Below.refl _ _).alloc (Nat.le_refl _) _).alloc (by first | (simp; done) | (simp; omega) | omega) _)
  have HKA0 := hide ((Bk.born w 151 #[.string a.fName, .int .i64 a.fLatency, (.slice va2 a.fSends.length vc2)]).alloc (.cells #[.string b.fName, .int .i64 b.fLatency, (.slice ua2 b.fSends.length uc2)] 151))
  have HKB0 := hide (Bk.born1' w (.cells #[.string a.fName, .int .i64 a.fLatency, (.slice va2 a.fSends.length vc2)] 151) 151 #[.string b.fName, .int .i64 b.fLatency, (.slice ua2 b.fSends.length uc2)])
  by_cases h0 : a.fName = b.fName
  · have e0 : (a.fName.toList == b.fName.toList) = true := by rw [str_eq]; simp [h0]
    have H0 := hide h0; clear h0
    by_cases h1 : a.fLatency = b.fLatency
    · have e1 : (a.fLatency != b.fLatency) = false := by simp [h1]
      have H1 := hide h1; clear h1
      by_cases h2 : a.fSends.length = b.fSends.length
      · have e2 : ((a.fSends.length : Int) != (b.fSends.length : Int)) = false := by simp; omega
        have HL2 := hide h2; clear h2
        go_enter Tryz.func200, Tryz.ntmps200
        go_wp2
        go_loopw [31] (fun i wr => ∃ k : Nat, k ≤ a.fSends.length ∧ i = .int .i64 k ∧ a.fSends.take k = b.fSends.take k ∧ Below ((w.alloc (.cells #[.string a.fName, .int .i64 a.fLatency, (.slice va2 a.fSends.length vc2)] 151)).alloc (.cells #[.string b.fName, .int .i64 b.fLatency, (.slice ua2 b.fSends.length uc2)] 151)).heap.size ((w.alloc (.cells #[.string a.fName, .int .i64 a.fLatency, (.slice va2 a.fSends.length vc2)] 151)).alloc (.cells #[.string b.fName, .int .i64 b.fLatency, (.slice ua2 b.fSends.length uc2)] 151)) wr) (fun i _ => a.fSends.length - (intOf i).toNat)
        case atStart => exact ⟨0, Nat.zero_le _, rfl, rfl, Below.refl _ _⟩
        case round =>
          obtain ⟨k, hk, rfl, hs, hbw⟩ := hrel
          have HS := hide hs; have HW := hide hbw; clear hs hbw
          have HB := hide (bthen HB0.out HB0.out.size HW.out)
          have HKA := hide (HKA0.out.below HW.out HKA0.out.lt); have HKB := hide (HKB0.out.below HW.out HKB0.out.lt)
          have ka := HKA.out.cell; have kb := HKB.out.cell
          have la : w.heap.size < wr.heap.size := HKA.out.lt
          have lb : w.heap.size + 1 < wr.heap.size := HKB.out.lt
          by_cases hlt : k < a.fSends.length
          · have hlt2 : k < b.fSends.length := by have := HL2.out; omega
            obtain ⟨b1, o1, cs1, hA1, hbw1, hcs1, hcell1⟩ := HXA2.out k (GSend.t a.fSends[k]) (by rw [List.getElem?_map, List.getElem?_eq_getElem hlt]; rfl)
            obtain ⟨b2, o2, cs2, hA2, hbw2, hcs2, hcell2⟩ := HXB2.out k (GSend.t b.fSends[k]) (by rw [List.getElem?_map, List.getElem?_eq_getElem hlt2]; rfl)
            subst hA1 hA2
            have hg1 := List.getElem?_eq_getElem hlt
            have hg2 := List.getElem?_eq_getElem hlt2
            generalize a.fSends[k] = x at *
            generalize b.fSends[k] = y at *
            have HG1 := hide hg1; have HG2 := hide hg2; clear hg1 hg2
            obtain rfl := GSend.rd_open (show T.rds _ _ _ by simpa only [GSend.t, T.rd] using hcs1)
            have d10 := (HB.out.cell hbw1).trans (hcell1 0 (.int .i64 x.fTo) rfl)
            have d11 := (HB.out.cell hbw1).trans (hcell1 1 (.int .i64 x.fGain) rfl)
            rw [show o1 + (k * 2 + 0) = o1 + k * 2 by omega] at d10
            rw [show o1 + (k * 2 + 1) = o1 + k * 2 + 1 by omega] at d11
            clear hcs1 hcell1
            have hq1 : b1 < wr.heap.size := Nat.lt_of_lt_of_le hbw1 HB.out.size
            obtain rfl := GSend.rd_open (show T.rds _ _ _ by simpa only [GSend.t, T.rd] using hcs2)
            have d20 := (HB.out.cell hbw2).trans (hcell2 0 (.int .i64 y.fTo) rfl)
            have d21 := (HB.out.cell hbw2).trans (hcell2 1 (.int .i64 y.fGain) rfl)
            rw [show o2 + (k * 2 + 0) = o2 + k * 2 by omega] at d20
            rw [show o2 + (k * 2 + 1) = o2 + k * 2 + 1 by omega] at d21
            clear hcs2 hcell2
            have hq2 : b2 < wr.heap.size := Nat.lt_of_lt_of_le hbw2 HB.out.size
            have hW := HW.out
            have hB := HB.out
            by_cases he : x = y
            · have hde : decide (x = y) = true := decide_eq_true he
              have heq : ∀ w, (Op.equalIn 10000 148 (.agg #[.int .i64 x.fTo, .int .i64 x.fGain]) (.agg #[.int .i64 y.fTo, .int .i64 y.fGain])).run Tryz.prog w = .ok (decide (x = y)) w := eq_Send 9998 x y
              rw [hde] at heq
              have hgd := eqg_Send
              have HE := hide he; clear he hde
              go_wp2
              go_quiet (fail)
              go_wp2
              go_roundw
              case rel => exact ⟨k + 1, by omega, by go_num, takes_succ HS.out HG1.out (by rw [HE.out]; exact HG2.out), (by repeat (first | with_reducible exact Below.refl _ _ | with_reducible assumption | with_reducible refine Below.setCell ?_ (by first | omega | (simp; done) | (simp; omega)) _ | with_reducible refine Below.alloc ?_ (by first | omega | (simp; done) | (simp; omega)) _ | with_reducible refine Below.drew ?_ | with_reducible refine below_drewN ?_ _ | exact Below.refl _ _ | assumption | refine Below.drew ?_ | refine below_drewN ?_ _ | refine Below.alloc ?_ (by first | omega | (simp; done) | (simp; omega)) _ | refine Below.setCell ?_ (by first | omega | (simp; done) | (simp; omega)) _))⟩
              case measure => simp [intOf]; omega
            · have hde : decide (x = y) = false := decide_eq_false he
              have heq : ∀ w, (Op.equalIn 10000 148 (.agg #[.int .i64 x.fTo, .int .i64 x.fGain]) (.agg #[.int .i64 y.fTo, .int .i64 y.fGain])).run Tryz.prog w = .ok (decide (x = y)) w := eq_Send 9998 x y
              rw [hde] at heq
              have hgd := eqg_Send
              have HE := hide he; clear he hde
              go_wp2
              go_quiet (fail)
              go_wp2
              go_ret
              have hne := ne_at HG1.out HG2.out HE.out
              exact ⟨ret_bool (by rw [HAB.out]; simp [H0.out, H1.out, hne]), (by repeat (first | with_reducible exact Below.refl _ _ | with_reducible assumption | with_reducible refine Below.setCell ?_ (by first | omega | (simp; done) | (simp; omega)) _ | with_reducible refine Below.alloc ?_ (by first | omega | (simp; done) | (simp; omega)) _ | with_reducible refine Below.drew ?_ | with_reducible refine below_drewN ?_ _ | exact Below.refl _ _ | assumption | refine Below.drew ?_ | refine below_drewN ?_ _ | refine Below.alloc ?_ (by first | omega | (simp; done) | (simp; omega)) _ | refine Below.setCell ?_ (by first | omega | (simp; done) | (simp; omega)) _))⟩
          · have hall := eq_of_takes (k := k) (by omega) HL2.out HS.out
            have HALL2 := hide hall; clear hall
            go_wp2
            go_ret
            exact ⟨ret_bool (by rw [HAB.out]; simp [H0.out, H1.out, HALL2.out]), HB.out⟩
      · have e2 : ((a.fSends.length : Int) != (b.fSends.length : Int)) = true := by simp; omega
        have H2 := hide (show ¬ a.fSends = b.fSends from fun e => h2 (by rw [e])); clear h2
        go_enter Tryz.func200, Tryz.ntmps200
        go_wp2
        go_ret
        exact ⟨ret_bool (by rw [HAB.out]; simp [H0.out, H1.out, H2.out]), HB0.out⟩
    · have e1 : (a.fLatency != b.fLatency) = true := by simp [h1]
      have H1 := hide h1; clear h1
      go_enter Tryz.func200, Tryz.ntmps200
      go_wp2
      go_ret
      exact ⟨ret_bool (by rw [HAB.out]; simp [H0.out, H1.out]), HB0.out⟩
  · have e0 : (a.fName.toList == b.fName.toList) = false := by rw [str_eq]; simp [h0]
    have H0 := hide h0; clear h0
    go_enter Tryz.func200, Tryz.ntmps200
    go_wp2
    go_ret
    exact ⟨ret_bool (by rw [HAB.out]; simp [H0.out]), HB0.out⟩
set_option maxHeartbeats 2000000 in
set_option maxRecDepth 20000 in
theorem c_iSameMixer (a b : GMixer) (v0 : Value) (u0 : Value) (w : World) (r0 : T.rd w (T.sl 151 3 (a.fStrips.map GStrip.t)) [v0]) (t0 : T.rd w (T.sl 151 3 (b.fStrips.map GStrip.t)) [u0]) :
    Calls Tryz.prog 128 #[.agg #[v0], .agg #[u0]] w fun e w' => e = .returned (.bool (decide (a = b))) ∧ Below w.heap.size w w' := by
  have hab : decide (a = b) = (decide (a.fStrips = b.fStrips)) := by
    obtain ⟨x0⟩ := a
    obtain ⟨y0⟩ := b
    rw [Bool.eq_iff_iff]
    simp only [GMixer.mk.injEq, decide_eq_true_eq, Bool.and_eq_true]
    try (constructor <;> (intro h; simp [h]))
  have R0 := hide r0; have Q0 := hide t0
  obtain ⟨va0, vc0, rfl, hla0, hca0, hxa0⟩ := T.rd_open r0
  obtain ⟨ua0, uc0, rfl, hlb0, hcb0, hxb0⟩ := T.rd_open t0
  rw [List.length_map] at hla0 hlb0 R0 Q0 ⊢
  rw [List.length_map]
  have HXA0 := hide hxa0; have HXB0 := hide hxb0; clear hxa0 hxb0
  clear r0 t0
  have HAB := hide hab; clear hab
  have HB0 := hide (show Below w.heap.size w ((w.alloc (.cells #[(.slice va0 a.fStrips.length vc0)] 60)).alloc (.cells #[(.slice ua0 b.fStrips.length uc0)] 60)) from ((Below.refl _ _).alloc (Nat.le_refl _) _).alloc (by first | (simp; done) | (simp; omega) | omega) _)
  have HKA0 := hide ((Bk.born w 60 #[(.slice va0 a.fStrips.length vc0)]).alloc (.cells #[(.slice ua0 b.fStrips.length uc0)] 60))
  have HKB0 := hide (Bk.born1' w (.cells #[(.slice va0 a.fStrips.length vc0)] 60) 60 #[(.slice ua0 b.fStrips.length uc0)])
  by_cases h0 : a.fStrips.length = b.fStrips.length
  · have e0 : ((a.fStrips.length : Int) != (b.fStrips.length : Int)) = false := by simp; omega
    have HL0 := hide h0; clear h0
    go_enter Tryz.func128, Tryz.ntmps128
    go_wp2
    go_loopw [17] (fun i wr => ∃ k : Nat, k ≤ a.fStrips.length ∧ i = .int .i64 k ∧ a.fStrips.take k = b.fStrips.take k ∧ Below ((w.alloc (.cells #[(.slice va0 a.fStrips.length vc0)] 60)).alloc (.cells #[(.slice ua0 b.fStrips.length uc0)] 60)).heap.size ((w.alloc (.cells #[(.slice va0 a.fStrips.length vc0)] 60)).alloc (.cells #[(.slice ua0 b.fStrips.length uc0)] 60)) wr) (fun i _ => a.fStrips.length - (intOf i).toNat)
    case atStart => exact ⟨0, Nat.zero_le _, rfl, rfl, Below.refl _ _⟩
    case round =>
      obtain ⟨k, hk, rfl, hs, hbw⟩ := hrel
      have HS := hide hs; have HW := hide hbw; clear hs hbw
      have HB := hide (bthen HB0.out HB0.out.size HW.out)
      have HKA := hide (HKA0.out.below HW.out HKA0.out.lt); have HKB := hide (HKB0.out.below HW.out HKB0.out.lt)
      have ka := HKA.out.cell; have kb := HKB.out.cell
      have la : w.heap.size < wr.heap.size := HKA.out.lt
      have lb : w.heap.size + 1 < wr.heap.size := HKB.out.lt
      by_cases hlt : k < a.fStrips.length
      · have hlt2 : k < b.fStrips.length := by have := HL0.out; omega
        obtain ⟨b1, o1, cs1, hA1, hbw1, hcs1, hcell1⟩ := HXA0.out k (GStrip.t a.fStrips[k]) (by rw [List.getElem?_map, List.getElem?_eq_getElem hlt]; rfl)
        obtain ⟨b2, o2, cs2, hA2, hbw2, hcs2, hcell2⟩ := HXB0.out k (GStrip.t b.fStrips[k]) (by rw [List.getElem?_map, List.getElem?_eq_getElem hlt2]; rfl)
        subst hA1 hA2
        have hg1 := List.getElem?_eq_getElem hlt
        have hg2 := List.getElem?_eq_getElem hlt2
        generalize a.fStrips[k] = x at *
        generalize b.fStrips[k] = y at *
        have HG1 := hide hg1; have HG2 := hide hg2; clear hg1 hg2
        obtain ⟨p2, rfl, hR12⟩ := GStrip.rd_open (show T.rds _ _ _ by simpa only [GStrip.t, T.rd] using hcs1)
        have d10 := (HB.out.cell hbw1).trans (hcell1 0 (.string x.fName) rfl)
        have d11 := (HB.out.cell hbw1).trans (hcell1 1 (.int .i64 x.fLatency) rfl)
        have d12 := (HB.out.cell hbw1).trans (hcell1 2 (p2) rfl)
        rw [show o1 + (k * 3 + 0) = o1 + k * 3 by omega] at d10
        rw [show o1 + (k * 3 + 1) = o1 + k * 3 + 1 by omega] at d11
        rw [show o1 + (k * 3 + 2) = o1 + k * 3 + 2 by omega] at d12
        have R12 := hide (T.rd_below hR12 HB.out); clear hR12
        clear hcs1 hcell1
        have hq1 : b1 < wr.heap.size := Nat.lt_of_lt_of_le hbw1 HB.out.size
        obtain ⟨pa2, pl2, pc2, rfl⟩ := T.rd_slice R12.out
        obtain ⟨q2, rfl, hR22⟩ := GStrip.rd_open (show T.rds _ _ _ by simpa only [GStrip.t, T.rd] using hcs2)
        have d20 := (HB.out.cell hbw2).trans (hcell2 0 (.string y.fName) rfl)
        have d21 := (HB.out.cell hbw2).trans (hcell2 1 (.int .i64 y.fLatency) rfl)
        have d22 := (HB.out.cell hbw2).trans (hcell2 2 (q2) rfl)
        rw [show o2 + (k * 3 + 0) = o2 + k * 3 by omega] at d20
        rw [show o2 + (k * 3 + 1) = o2 + k * 3 + 1 by omega] at d21
        rw [show o2 + (k * 3 + 2) = o2 + k * 3 + 2 by omega] at d22
        have R22 := hide (T.rd_below hR22 HB.out); clear hR22
        clear hcs2 hcell2
        have hq2 : b2 < wr.heap.size := Nat.lt_of_lt_of_le hbw2 HB.out.size
        obtain ⟨qa2, ql2, qc2, rfl⟩ := T.rd_slice R22.out
        have hW := HW.out
        have hB := HB.out
        by_cases he : x = y
        · have hde : decide (x = y) = true := decide_eq_true he
          have HE := hide he; clear he
          go_wp2
          go_region_held3 (fun w' => w'.cell? ⟨wr.heap.size, 0, none⟩ = some (.string x.fName) ∧ w'.cell? ⟨wr.heap.size, 1, none⟩ = some (.int .i64 x.fLatency) ∧ w'.cell? ⟨wr.heap.size, 2, none⟩ = some ((.slice pa2 pl2 pc2)) ∧ w'.cell? ⟨w.heap.size + 1, 0, none⟩ = some (.slice (some ⟨b2, o2, none⟩) b.fStrips.length uc0) ∧ w'.cell? ⟨b2, o2 + k * 3, none⟩ = some (.string y.fName) ∧ w'.cell? ⟨b2, o2 + k * 3 + 1, none⟩ = some (.int .i64 y.fLatency) ∧ w'.cell? ⟨b2, o2 + k * 3 + 2, none⟩ = some ((.slice qa2 ql2 qc2))) (first | go_keep | (refine ⟨(hb3.cell ?_).trans ?_, (hb3.cell ?_).trans ?_, (hb3.cell ?_).trans ?_, (hb3.cell ?_).trans ?_, (hb3.cell ?_).trans ?_, (hb3.cell ?_).trans ?_, (hb3.cell ?_).trans ?_⟩ <;> first | assumption | (simp [*]; done) | (simp; omega))) (first | (go_at_call 200; refine (c_iSameStrip x y _ _ _ (T.rd_below R12.out (by repeat (first | with_reducible exact Below.refl _ _ | with_reducible refine Below.alloc ?_ (Nat.le_refl _) _ | with_reducible refine Below.drew ?_ | with_reducible refine below_drewN ?_ _))) (T.rd_below R22.out (by repeat (first | with_reducible exact Below.refl _ _ | with_reducible refine Below.alloc ?_ (Nat.le_refl _) _ | with_reducible refine Below.drew ?_ | with_reducible refine below_drewN ?_ _)))).mono ?_; rintro e w3 ⟨rfl, hb3⟩; rw [hde]))
          have hb4 : Below wr.heap.size wr w3 := by first | exact below_of_alloc hb3 | exact below_of_alloc (undrew hb3) | exact below_of_alloc (undrewN hb3) | exact hb3 | exact undrew hb3 | exact undrewN hb3
          have HC := hide (bthen HW.out HW.out.size hb4); have HC2 := hide (bthen HB.out HB.out.size hb4); clear hb4 hb3
          go_wp2
          go_roundw
          case rel => exact ⟨k + 1, by omega, by go_num, takes_succ HS.out HG1.out (by rw [HE.out]; exact HG2.out), (by first | exact HC.out | exact HC.out.drew | exact below_drewN HC.out _)⟩
          case measure => simp [intOf]; omega
        · have hde : decide (x = y) = false := decide_eq_false he
          have HE := hide he; clear he
          go_wp2
          go_region_held3 (fun w' => w'.cell? ⟨wr.heap.size, 0, none⟩ = some (.string x.fName) ∧ w'.cell? ⟨wr.heap.size, 1, none⟩ = some (.int .i64 x.fLatency) ∧ w'.cell? ⟨wr.heap.size, 2, none⟩ = some ((.slice pa2 pl2 pc2)) ∧ w'.cell? ⟨w.heap.size + 1, 0, none⟩ = some (.slice (some ⟨b2, o2, none⟩) b.fStrips.length uc0) ∧ w'.cell? ⟨b2, o2 + k * 3, none⟩ = some (.string y.fName) ∧ w'.cell? ⟨b2, o2 + k * 3 + 1, none⟩ = some (.int .i64 y.fLatency) ∧ w'.cell? ⟨b2, o2 + k * 3 + 2, none⟩ = some ((.slice qa2 ql2 qc2))) (first | go_keep | (refine ⟨(hb3.cell ?_).trans ?_, (hb3.cell ?_).trans ?_, (hb3.cell ?_).trans ?_, (hb3.cell ?_).trans ?_, (hb3.cell ?_).trans ?_, (hb3.cell ?_).trans ?_, (hb3.cell ?_).trans ?_⟩ <;> first | assumption | (simp [*]; done) | (simp; omega))) (first | (go_at_call 200; refine (c_iSameStrip x y _ _ _ (T.rd_below R12.out (by repeat (first | with_reducible exact Below.refl _ _ | with_reducible refine Below.alloc ?_ (Nat.le_refl _) _ | with_reducible refine Below.drew ?_ | with_reducible refine below_drewN ?_ _))) (T.rd_below R22.out (by repeat (first | with_reducible exact Below.refl _ _ | with_reducible refine Below.alloc ?_ (Nat.le_refl _) _ | with_reducible refine Below.drew ?_ | with_reducible refine below_drewN ?_ _)))).mono ?_; rintro e w3 ⟨rfl, hb3⟩; rw [hde]))
          have hb4 : Below wr.heap.size wr w3 := by first | exact below_of_alloc hb3 | exact below_of_alloc (undrew hb3) | exact below_of_alloc (undrewN hb3) | exact hb3 | exact undrew hb3 | exact undrewN hb3
          have HC := hide (bthen HW.out HW.out.size hb4); have HC2 := hide (bthen HB.out HB.out.size hb4); clear hb4 hb3
          go_wp2
          go_ret
          have hne := ne_at HG1.out HG2.out HE.out
          exact ⟨ret_bool (by rw [HAB.out]; simp [hne]), (by first | exact HC2.out | exact HC2.out.drew | exact below_drewN HC2.out _)⟩
      · have hall := eq_of_takes (k := k) (by omega) HL0.out HS.out
        have HALL0 := hide hall; clear hall
        go_wp2
        go_ret
        exact ⟨ret_bool (by rw [HAB.out]; simp [HALL0.out]), HB.out⟩
  · have e0 : ((a.fStrips.length : Int) != (b.fStrips.length : Int)) = true := by simp; omega
    have H0 := hide (show ¬ a.fStrips = b.fStrips from fun e => h0 (by rw [e])); clear h0
    go_enter Tryz.func128, Tryz.ntmps128
    go_wp2
    go_ret
    exact ⟨ret_bool (by rw [HAB.out]; simp [H0.out]), HB0.out⟩
set_option maxHeartbeats 2000000 in
set_option maxRecDepth 20000 in
theorem c_iSameSession (a b : GSession) (v1 : Value) (v2 : Value) (v3 : Value) (v4 : Value) (v5 : Value) (u1 : Value) (u2 : Value) (u3 : Value) (u4 : Value) (u5 : Value) (w : World) (r1 : T.rd w (T.sl 33 1 (a.fSources.map (T.ints 2))) [v1]) (r2 : T.rd w (T.sl 146 1 (a.fTracks.map GTrack.t)) [v2]) (r3 : T.rd w (T.ints 2 a.fFeeds) [v3]) (r4 : T.rd w (T.sl 157 4 (a.fEffects.map GPatch.t)) [v4]) (r5 : T.rd w (T.sl 151 3 (a.fMixer.fStrips.map GStrip.t)) [v5]) (t1 : T.rd w (T.sl 33 1 (b.fSources.map (T.ints 2))) [u1]) (t2 : T.rd w (T.sl 146 1 (b.fTracks.map GTrack.t)) [u2]) (t3 : T.rd w (T.ints 2 b.fFeeds) [u3]) (t4 : T.rd w (T.sl 157 4 (b.fEffects.map GPatch.t)) [u4]) (t5 : T.rd w (T.sl 151 3 (b.fMixer.fStrips.map GStrip.t)) [u5]) :
    Calls Tryz.prog 65 #[.agg #[.int .i64 a.fLength, v1, v2, v3, v4, v5], .agg #[.int .i64 b.fLength, u1, u2, u3, u4, u5]] w fun e w' => e = .returned (.bool (decide (a = b))) ∧ Below w.heap.size w w' := by
  have hab : decide (a = b) = (decide (a.fLength = b.fLength) && (decide (a.fSources = b.fSources) && (decide (a.fTracks = b.fTracks) && (decide (a.fFeeds = b.fFeeds) && (decide (a.fEffects = b.fEffects) && (decide (a.fMixer = b.fMixer))))))) := by
    obtain ⟨x0, x1, x2, x3, x4, x5⟩ := a
    obtain ⟨y0, y1, y2, y3, y4, y5⟩ := b
    rw [Bool.eq_iff_iff]
    simp only [GSession.mk.injEq, decide_eq_true_eq, Bool.and_eq_true]
    try (constructor <;> (intro h; simp [h]))
  have R1 := hide r1; have Q1 := hide t1
  have R2 := hide r2; have Q2 := hide t2
  have R3 := hide r3; have Q3 := hide t3
  have R4 := hide r4; have Q4 := hide t4
  have R5 := hide r5; have Q5 := hide t5
  obtain ⟨va1, vl1, vc1, rfl⟩ := T.rd_slice r1
  obtain ⟨ua1, ul1, uc1, rfl⟩ := T.rd_slice t1
  obtain ⟨va2, vc2, rfl, hla2, hca2, hxa2⟩ := T.rd_open r2
  obtain ⟨ua2, uc2, rfl, hlb2, hcb2, hxb2⟩ := T.rd_open t2
  rw [List.length_map] at hla2 hlb2 R2 Q2 ⊢
  rw [List.length_map]
  have HXA2 := hide hxa2; have HXB2 := hide hxb2; clear hxa2 hxb2
  obtain ⟨va3, vl3, vc3, rfl⟩ := T.rd_slice r3
  obtain ⟨ua3, ul3, uc3, rfl⟩ := T.rd_slice t3
  obtain ⟨va4, vc4, rfl, hla4, hca4, hxa4⟩ := T.rd_open r4
  obtain ⟨ua4, uc4, rfl, hlb4, hcb4, hxb4⟩ := T.rd_open t4
  rw [List.length_map] at hla4 hlb4 R4 Q4 ⊢
  rw [List.length_map]
  have HXA4 := hide hxa4; have HXB4 := hide hxb4; clear hxa4 hxb4
  obtain ⟨va5, vl5, vc5, rfl⟩ := T.rd_slice r5
  obtain ⟨ua5, ul5, uc5, rfl⟩ := T.rd_slice t5
  clear r1 t1 r2 t2 r3 t3 r4 t4 r5 t5
  have HAB := hide hab; clear hab
  have HB0 := hide (show Below w.heap.size w ((w.alloc (.cells #[.int .i64 a.fLength, (.slice va1 vl1 vc1), (.slice va2 a.fTracks.length vc2), (.slice va3 vl3 vc3), (.slice va4 a.fEffects.length vc4), (.slice va5 vl5 vc5)] 62)).alloc (.cells #[.int .i64 b.fLength, (.slice ua1 ul1 uc1), (.slice ua2 b.fTracks.length uc2), (.slice ua3 ul3 uc3), (.slice ua4 b.fEffects.length uc4), (.slice ua5 ul5 uc5)] 62)) from ((Below.refl _ _).alloc (Nat.le_refl _) _).alloc (by first | (simp; done) | (simp; omega) | omega) _)
  have HKA0 := hide ((Bk.born w 62 #[.int .i64 a.fLength, (.slice va1 vl1 vc1), (.slice va2 a.fTracks.length vc2), (.slice va3 vl3 vc3), (.slice va4 a.fEffects.length vc4), (.slice va5 vl5 vc5)]).alloc (.cells #[.int .i64 b.fLength, (.slice ua1 ul1 uc1), (.slice ua2 b.fTracks.length uc2), (.slice ua3 ul3 uc3), (.slice ua4 b.fEffects.length uc4), (.slice ua5 ul5 uc5)] 62))
  have HKB0 := hide (Bk.born1' w (.cells #[.int .i64 a.fLength, (.slice va1 vl1 vc1), (.slice va2 a.fTracks.length vc2), (.slice va3 vl3 vc3), (.slice va4 a.fEffects.length vc4), (.slice va5 vl5 vc5)] 62) 62 #[.int .i64 b.fLength, (.slice ua1 ul1 uc1), (.slice ua2 b.fTracks.length uc2), (.slice ua3 ul3 uc3), (.slice ua4 b.fEffects.length uc4), (.slice ua5 ul5 uc5)])
  by_cases h0 : a.fLength = b.fLength
  · have e0 : (a.fLength != b.fLength) = false := by simp [h0]
    have H0 := hide h0; clear h0
    by_cases h1 : a.fSources = b.fSources
    · have c1 : decide (a.fSources = b.fSources) = true := by simp [h1]
      have H1 := hide h1; clear h1
      by_cases h2 : a.fTracks.length = b.fTracks.length
      · have e2 : ((a.fTracks.length : Int) != (b.fTracks.length : Int)) = false := by simp; omega
        have HL2 := hide h2; clear h2
        by_cases h3 : a.fFeeds = b.fFeeds
        · have c3 : decide (a.fFeeds = b.fFeeds) = true := by simp [h3]
          have H3 := hide h3; clear h3
          by_cases h4 : a.fEffects.length = b.fEffects.length
          · have e4 : ((a.fEffects.length : Int) != (b.fEffects.length : Int)) = false := by simp; omega
            have HL4 := hide h4; clear h4
            by_cases h5 : a.fMixer = b.fMixer
            · have c5 : decide (a.fMixer = b.fMixer) = true := by simp [h5]
              have H5 := hide h5; clear h5
              go_enter Tryz.func65, Tryz.ntmps65
              go_wp2_with fail
              refine (c_sameAll _ _ a.fSources b.fSources _ (T.rd_below R1.out HB0.out) (T.rd_below Q1.out HB0.out)).mono ?_; rintro e w1 ⟨rfl, hd⟩; rw [c1]
              have hb : Below ((w.alloc (.cells #[.int .i64 a.fLength, (.slice va1 vl1 vc1), (.slice va2 a.fTracks.length vc2), (.slice va3 vl3 vc3), (.slice va4 a.fEffects.length vc4), (.slice va5 vl5 vc5)] 62)).alloc (.cells #[.int .i64 b.fLength, (.slice ua1 ul1 uc1), (.slice ua2 b.fTracks.length uc2), (.slice ua3 ul3 uc3), (.slice ua4 b.fEffects.length uc4), (.slice ua5 ul5 uc5)] 62)).heap.size ((w.alloc (.cells #[.int .i64 a.fLength, (.slice va1 vl1 vc1), (.slice va2 a.fTracks.length vc2), (.slice va3 vl3 vc3), (.slice va4 a.fEffects.length vc4), (.slice va5 vl5 vc5)] 62)).alloc (.cells #[.int .i64 b.fLength, (.slice ua1 ul1 uc1), (.slice ua2 b.fTracks.length uc2), (.slice ua3 ul3 uc3), (.slice ua4 b.fEffects.length uc4), (.slice ua5 ul5 uc5)] 62)) w1 := by first | exact hd.to_below _ | exact hd
              have HKA1 := hide (HKA0.out.below hb HKA0.out.lt); have HKB1 := hide (HKB0.out.below hb HKB0.out.lt); have HB1 := hide (bthen HB0.out HB0.out.size hb); clear hb hd
              have ka1 := HKA1.out.cell; have kb1 := HKB1.out.cell
              go_wp2_with fail
              refine (c_same _ _ a.fFeeds b.fFeeds _ (T.rd_ints.1 (T.rd_below R3.out HB1.out)) (T.rd_ints.1 (T.rd_below Q3.out HB1.out))).mono ?_; rintro e w2 ⟨rfl, hd⟩; rw [c3]
              have hb : Below w1.heap.size w1 w2 := by first | exact hd.to_below _ | exact hd
              have HKA2 := hide (HKA1.out.below hb HKA1.out.lt); have HKB2 := hide (HKB1.out.below hb HKB1.out.lt); have HB2 := hide (bthen HB1.out HB1.out.size hb); clear hb hd
              have ka2 := HKA2.out.cell; have kb2 := HKB2.out.cell
              go_wp2_with fail
              refine (c_iSameMixer a.fMixer b.fMixer _ _ _ (T.rd_below R5.out HB2.out) (T.rd_below Q5.out HB2.out)).mono ?_; rintro e w3 ⟨rfl, hd⟩; rw [c5]
              have hb : Below w2.heap.size w2 w3 := by first | exact hd.to_below _ | exact hd
              have HKA3 := hide (HKA2.out.below hb HKA2.out.lt); have HKB3 := hide (HKB2.out.below hb HKB2.out.lt); have HB3 := hide (bthen HB2.out HB2.out.size hb); clear hb hd
              have ka3 := HKA3.out.cell; have kb3 := HKB3.out.cell
              go_wp2
              go_loopw [59] (fun i wr => ∃ k : Nat, k ≤ a.fTracks.length ∧ i = .int .i64 k ∧ a.fTracks.take k = b.fTracks.take k ∧ Below w3.heap.size w3 wr) (fun i _ => a.fTracks.length - (intOf i).toNat)
              case atStart => exact ⟨0, Nat.zero_le _, rfl, rfl, Below.refl _ _⟩
              case round =>
                obtain ⟨k, hk, rfl, hs, hbw⟩ := hrel
                have HS := hide hs; have HW := hide hbw; clear hs hbw
                have HB := hide (bthen HB3.out HB3.out.size HW.out)
                have HKA := hide (HKA3.out.below HW.out HKA3.out.lt); have HKB := hide (HKB3.out.below HW.out HKB3.out.lt)
                have ka := HKA.out.cell; have kb := HKB.out.cell
                have la : w.heap.size < wr.heap.size := HKA.out.lt
                have lb : w.heap.size + 1 < wr.heap.size := HKB.out.lt
                by_cases hlt : k < a.fTracks.length
                · have hlt2 : k < b.fTracks.length := by have := HL2.out; omega
                  obtain ⟨b1, o1, cs1, hA1, hbw1, hcs1, hcell1⟩ := HXA2.out k (GTrack.t a.fTracks[k]) (by rw [List.getElem?_map, List.getElem?_eq_getElem hlt]; rfl)
                  obtain ⟨b2, o2, cs2, hA2, hbw2, hcs2, hcell2⟩ := HXB2.out k (GTrack.t b.fTracks[k]) (by rw [List.getElem?_map, List.getElem?_eq_getElem hlt2]; rfl)
                  subst hA1 hA2
                  have hg1 := List.getElem?_eq_getElem hlt
                  have hg2 := List.getElem?_eq_getElem hlt2
                  generalize a.fTracks[k] = x at *
                  generalize b.fTracks[k] = y at *
                  have HG1 := hide hg1; have HG2 := hide hg2; clear hg1 hg2
                  obtain ⟨p0, rfl, hR10⟩ := GTrack.rd_open (show T.rds _ _ _ by simpa only [GTrack.t, T.rd] using hcs1)
                  have d10 := (HB.out.cell hbw1).trans (hcell1 0 (p0) rfl)
                  rw [show o1 + (k * 1 + 0) = o1 + k by omega] at d10
                  have R10 := hide (T.rd_below hR10 HB.out); clear hR10
                  clear hcs1 hcell1
                  have hq1 : b1 < wr.heap.size := Nat.lt_of_lt_of_le hbw1 HB.out.size
                  obtain ⟨pa0, pl0, pc0, rfl⟩ := T.rd_slice R10.out
                  obtain ⟨q0, rfl, hR20⟩ := GTrack.rd_open (show T.rds _ _ _ by simpa only [GTrack.t, T.rd] using hcs2)
                  have d20 := (HB.out.cell hbw2).trans (hcell2 0 (q0) rfl)
                  rw [show o2 + (k * 1 + 0) = o2 + k by omega] at d20
                  have R20 := hide (T.rd_below hR20 HB.out); clear hR20
                  clear hcs2 hcell2
                  have hq2 : b2 < wr.heap.size := Nat.lt_of_lt_of_le hbw2 HB.out.size
                  obtain ⟨qa0, ql0, qc0, rfl⟩ := T.rd_slice R20.out
                  have hW := HW.out
                  have hB := HB.out
                  by_cases he : x = y
                  · have hde : decide (x = y) = true := decide_eq_true he
                    have HE := hide he; clear he
                    go_wp2
                    go_region_held3 (fun w' => w'.cell? ⟨wr.heap.size, 0, none⟩ = some ((.slice pa0 pl0 pc0)) ∧ w'.cell? ⟨w.heap.size + 1, 2, none⟩ = some (.slice (some ⟨b2, o2, none⟩) b.fTracks.length uc2) ∧ w'.cell? ⟨b2, o2 + k, none⟩ = some ((.slice qa0 ql0 qc0))) (first | go_keep | (refine ⟨(hb3.cell ?_).trans ?_, (hb3.cell ?_).trans ?_, (hb3.cell ?_).trans ?_⟩ <;> first | assumption | (simp [*]; done) | (simp; omega))) (first | (go_at_call 129; refine (c_iSameTrack x y _ _ _ (T.rd_below R10.out (by repeat (first | with_reducible exact Below.refl _ _ | with_reducible refine Below.alloc ?_ (Nat.le_refl _) _ | with_reducible refine Below.drew ?_ | with_reducible refine below_drewN ?_ _))) (T.rd_below R20.out (by repeat (first | with_reducible exact Below.refl _ _ | with_reducible refine Below.alloc ?_ (Nat.le_refl _) _ | with_reducible refine Below.drew ?_ | with_reducible refine below_drewN ?_ _)))).mono ?_; rintro e w3 ⟨rfl, hb3⟩; rw [hde]))
                    have hb4 : Below wr.heap.size wr w3 := by first | exact below_of_alloc hb3 | exact below_of_alloc (undrew hb3) | exact below_of_alloc (undrewN hb3) | exact hb3 | exact undrew hb3 | exact undrewN hb3
                    have HC := hide (bthen HW.out HW.out.size hb4); have HC2 := hide (bthen HB.out HB.out.size hb4); clear hb4 hb3
                    go_wp2
                    go_roundw
                    case rel => exact ⟨k + 1, by omega, by go_num, takes_succ HS.out HG1.out (by rw [HE.out]; exact HG2.out), (by first | exact HC.out | exact HC.out.drew | exact below_drewN HC.out _)⟩
                    case measure => simp [intOf]; omega
                  · have hde : decide (x = y) = false := decide_eq_false he
                    have HE := hide he; clear he
                    go_wp2
                    go_region_held3 (fun w' => w'.cell? ⟨wr.heap.size, 0, none⟩ = some ((.slice pa0 pl0 pc0)) ∧ w'.cell? ⟨w.heap.size + 1, 2, none⟩ = some (.slice (some ⟨b2, o2, none⟩) b.fTracks.length uc2) ∧ w'.cell? ⟨b2, o2 + k, none⟩ = some ((.slice qa0 ql0 qc0))) (first | go_keep | (refine ⟨(hb3.cell ?_).trans ?_, (hb3.cell ?_).trans ?_, (hb3.cell ?_).trans ?_⟩ <;> first | assumption | (simp [*]; done) | (simp; omega))) (first | (go_at_call 129; refine (c_iSameTrack x y _ _ _ (T.rd_below R10.out (by repeat (first | with_reducible exact Below.refl _ _ | with_reducible refine Below.alloc ?_ (Nat.le_refl _) _ | with_reducible refine Below.drew ?_ | with_reducible refine below_drewN ?_ _))) (T.rd_below R20.out (by repeat (first | with_reducible exact Below.refl _ _ | with_reducible refine Below.alloc ?_ (Nat.le_refl _) _ | with_reducible refine Below.drew ?_ | with_reducible refine below_drewN ?_ _)))).mono ?_; rintro e w3 ⟨rfl, hb3⟩; rw [hde]))
                    have hb4 : Below wr.heap.size wr w3 := by first | exact below_of_alloc hb3 | exact below_of_alloc (undrew hb3) | exact below_of_alloc (undrewN hb3) | exact hb3 | exact undrew hb3 | exact undrewN hb3
                    have HC := hide (bthen HW.out HW.out.size hb4); have HC2 := hide (bthen HB.out HB.out.size hb4); clear hb4 hb3
                    go_wp2
                    go_ret
                    have hne := ne_at HG1.out HG2.out HE.out
                    exact ⟨ret_bool (by rw [HAB.out]; simp [H0.out, H1.out, H3.out, H5.out, hne]), (by first | exact HC2.out | exact HC2.out.drew | exact below_drewN HC2.out _)⟩
                · have hall := eq_of_takes (k := k) (by omega) HL2.out HS.out
                  have HALL2 := hide hall; clear hall
                  have HKAz1 := HKA; have HKBz1 := HKB; have HBz1 := HB
                  generalize wr = wz1 at *
                  go_wp2
                  go_loopw [76] (fun i wr => ∃ k : Nat, k ≤ a.fEffects.length ∧ i = .int .i64 k ∧ a.fEffects.take k = b.fEffects.take k ∧ Below wz1.heap.size wz1 wr) (fun i _ => a.fEffects.length - (intOf i).toNat)
                  case atStart => exact ⟨0, Nat.zero_le _, rfl, rfl, Below.refl _ _⟩
                  case round =>
                    obtain ⟨k, hk, rfl, hs, hbw⟩ := hrel
                    have HS := hide hs; have HW := hide hbw; clear hs hbw
                    have HB := hide (bthen HBz1.out HBz1.out.size HW.out)
                    have HKA := hide (HKAz1.out.below HW.out HKAz1.out.lt); have HKB := hide (HKBz1.out.below HW.out HKBz1.out.lt)
                    have ka := HKA.out.cell; have kb := HKB.out.cell
                    have la : w.heap.size < wr.heap.size := HKA.out.lt
                    have lb : w.heap.size + 1 < wr.heap.size := HKB.out.lt
                    by_cases hlt : k < a.fEffects.length
                    · have hlt2 : k < b.fEffects.length := by have := HL4.out; omega
                      obtain ⟨b1, o1, cs1, hA1, hbw1, hcs1, hcell1⟩ := HXA4.out k (GPatch.t a.fEffects[k]) (by rw [List.getElem?_map, List.getElem?_eq_getElem hlt]; rfl)
                      obtain ⟨b2, o2, cs2, hA2, hbw2, hcs2, hcell2⟩ := HXB4.out k (GPatch.t b.fEffects[k]) (by rw [List.getElem?_map, List.getElem?_eq_getElem hlt2]; rfl)
                      subst hA1 hA2
                      have hg1 := List.getElem?_eq_getElem hlt
                      have hg2 := List.getElem?_eq_getElem hlt2
                      generalize a.fEffects[k] = x at *
                      generalize b.fEffects[k] = y at *
                      have HG1 := hide hg1; have HG2 := hide hg2; clear hg1 hg2
                      obtain ⟨p1, p2, p3, rfl, hR11, hR12, hR13⟩ := GPatch.rd_open (show T.rds _ _ _ by simpa only [GPatch.t, T.rd] using hcs1)
                      have d10 := (HB.out.cell hbw1).trans (hcell1 0 (.int .i64 x.fInputs) rfl)
                      have d11 := (HB.out.cell hbw1).trans (hcell1 1 (p1) rfl)
                      have d12 := (HB.out.cell hbw1).trans (hcell1 2 (p2) rfl)
                      have d13 := (HB.out.cell hbw1).trans (hcell1 3 (p3) rfl)
                      rw [show o1 + (k * 4 + 0) = o1 + k * 4 by omega] at d10
                      rw [show o1 + (k * 4 + 1) = o1 + k * 4 + 1 by omega] at d11
                      rw [show o1 + (k * 4 + 2) = o1 + k * 4 + 2 by omega] at d12
                      rw [show o1 + (k * 4 + 3) = o1 + k * 4 + 3 by omega] at d13
                      have R11 := hide (T.rd_below hR11 HB.out); clear hR11
                      have R12 := hide (T.rd_below hR12 HB.out); clear hR12
                      have R13 := hide (T.rd_below hR13 HB.out); clear hR13
                      clear hcs1 hcell1
                      have hq1 : b1 < wr.heap.size := Nat.lt_of_lt_of_le hbw1 HB.out.size
                      obtain ⟨pa1, pl1, pc1, rfl⟩ := T.rd_slice R11.out
                      obtain ⟨pa2, pl2, pc2, rfl⟩ := T.rd_slice R12.out
                      obtain ⟨pa3, pl3, pc3, rfl⟩ := T.rd_slice R13.out
                      obtain ⟨q1, q2, q3, rfl, hR21, hR22, hR23⟩ := GPatch.rd_open (show T.rds _ _ _ by simpa only [GPatch.t, T.rd] using hcs2)
                      have d20 := (HB.out.cell hbw2).trans (hcell2 0 (.int .i64 y.fInputs) rfl)
                      have d21 := (HB.out.cell hbw2).trans (hcell2 1 (q1) rfl)
                      have d22 := (HB.out.cell hbw2).trans (hcell2 2 (q2) rfl)
                      have d23 := (HB.out.cell hbw2).trans (hcell2 3 (q3) rfl)
                      rw [show o2 + (k * 4 + 0) = o2 + k * 4 by omega] at d20
                      rw [show o2 + (k * 4 + 1) = o2 + k * 4 + 1 by omega] at d21
                      rw [show o2 + (k * 4 + 2) = o2 + k * 4 + 2 by omega] at d22
                      rw [show o2 + (k * 4 + 3) = o2 + k * 4 + 3 by omega] at d23
                      have R21 := hide (T.rd_below hR21 HB.out); clear hR21
                      have R22 := hide (T.rd_below hR22 HB.out); clear hR22
                      have R23 := hide (T.rd_below hR23 HB.out); clear hR23
                      clear hcs2 hcell2
                      have hq2 : b2 < wr.heap.size := Nat.lt_of_lt_of_le hbw2 HB.out.size
                      obtain ⟨qa1, ql1, qc1, rfl⟩ := T.rd_slice R21.out
                      obtain ⟨qa2, ql2, qc2, rfl⟩ := T.rd_slice R22.out
                      obtain ⟨qa3, ql3, qc3, rfl⟩ := T.rd_slice R23.out
                      have hW := HW.out
                      have hB := HB.out
                      by_cases he : x = y
                      · have hde : decide (x = y) = true := decide_eq_true he
                        have HE := hide he; clear he
                        go_wp2
                        go_region_held3 (fun w' => w'.cell? ⟨wr.heap.size, 0, none⟩ = some (.int .i64 x.fInputs) ∧ w'.cell? ⟨wr.heap.size, 1, none⟩ = some ((.slice pa1 pl1 pc1)) ∧ w'.cell? ⟨wr.heap.size, 2, none⟩ = some ((.slice pa2 pl2 pc2)) ∧ w'.cell? ⟨wr.heap.size, 3, none⟩ = some ((.slice pa3 pl3 pc3)) ∧ w'.cell? ⟨w.heap.size + 1, 4, none⟩ = some (.slice (some ⟨b2, o2, none⟩) b.fEffects.length uc4) ∧ w'.cell? ⟨b2, o2 + k * 4, none⟩ = some (.int .i64 y.fInputs) ∧ w'.cell? ⟨b2, o2 + k * 4 + 1, none⟩ = some ((.slice qa1 ql1 qc1)) ∧ w'.cell? ⟨b2, o2 + k * 4 + 2, none⟩ = some ((.slice qa2 ql2 qc2)) ∧ w'.cell? ⟨b2, o2 + k * 4 + 3, none⟩ = some ((.slice qa3 ql3 qc3))) (first | go_keep | (refine ⟨(hb3.cell ?_).trans ?_, (hb3.cell ?_).trans ?_, (hb3.cell ?_).trans ?_, (hb3.cell ?_).trans ?_, (hb3.cell ?_).trans ?_, (hb3.cell ?_).trans ?_, (hb3.cell ?_).trans ?_, (hb3.cell ?_).trans ?_, (hb3.cell ?_).trans ?_⟩ <;> first | assumption | (simp [*]; done) | (simp; omega))) (first | (go_at_call 130; refine (c_iSamePatch x y _ _ _ _ _ _ _ (T.rd_below R11.out (by repeat (first | with_reducible exact Below.refl _ _ | with_reducible refine Below.alloc ?_ (Nat.le_refl _) _ | with_reducible refine Below.drew ?_ | with_reducible refine below_drewN ?_ _))) (T.rd_below R12.out (by repeat (first | with_reducible exact Below.refl _ _ | with_reducible refine Below.alloc ?_ (Nat.le_refl _) _ | with_reducible refine Below.drew ?_ | with_reducible refine below_drewN ?_ _))) (T.rd_below R13.out (by repeat (first | with_reducible exact Below.refl _ _ | with_reducible refine Below.alloc ?_ (Nat.le_refl _) _ | with_reducible refine Below.drew ?_ | with_reducible refine below_drewN ?_ _))) (T.rd_below R21.out (by repeat (first | with_reducible exact Below.refl _ _ | with_reducible refine Below.alloc ?_ (Nat.le_refl _) _ | with_reducible refine Below.drew ?_ | with_reducible refine below_drewN ?_ _))) (T.rd_below R22.out (by repeat (first | with_reducible exact Below.refl _ _ | with_reducible refine Below.alloc ?_ (Nat.le_refl _) _ | with_reducible refine Below.drew ?_ | with_reducible refine below_drewN ?_ _))) (T.rd_below R23.out (by repeat (first | with_reducible exact Below.refl _ _ | with_reducible refine Below.alloc ?_ (Nat.le_refl _) _ | with_reducible refine Below.drew ?_ | with_reducible refine below_drewN ?_ _)))).mono ?_; rintro e w3 ⟨rfl, hb3⟩; rw [hde]))
                        have hb4 : Below wr.heap.size wr w3 := by first | exact below_of_alloc hb3 | exact below_of_alloc (undrew hb3) | exact below_of_alloc (undrewN hb3) | exact hb3 | exact undrew hb3 | exact undrewN hb3
                        have HC := hide (bthen HW.out HW.out.size hb4); have HC2 := hide (bthen HB.out HB.out.size hb4); clear hb4 hb3
                        go_wp2
                        go_roundw
                        case rel => exact ⟨k + 1, by omega, by go_num, takes_succ HS.out HG1.out (by rw [HE.out]; exact HG2.out), (by first | exact HC.out | exact HC.out.drew | exact below_drewN HC.out _)⟩
                        case measure => simp [intOf]; omega
                      · have hde : decide (x = y) = false := decide_eq_false he
                        have HE := hide he; clear he
                        go_wp2
                        go_region_held3 (fun w' => w'.cell? ⟨wr.heap.size, 0, none⟩ = some (.int .i64 x.fInputs) ∧ w'.cell? ⟨wr.heap.size, 1, none⟩ = some ((.slice pa1 pl1 pc1)) ∧ w'.cell? ⟨wr.heap.size, 2, none⟩ = some ((.slice pa2 pl2 pc2)) ∧ w'.cell? ⟨wr.heap.size, 3, none⟩ = some ((.slice pa3 pl3 pc3)) ∧ w'.cell? ⟨w.heap.size + 1, 4, none⟩ = some (.slice (some ⟨b2, o2, none⟩) b.fEffects.length uc4) ∧ w'.cell? ⟨b2, o2 + k * 4, none⟩ = some (.int .i64 y.fInputs) ∧ w'.cell? ⟨b2, o2 + k * 4 + 1, none⟩ = some ((.slice qa1 ql1 qc1)) ∧ w'.cell? ⟨b2, o2 + k * 4 + 2, none⟩ = some ((.slice qa2 ql2 qc2)) ∧ w'.cell? ⟨b2, o2 + k * 4 + 3, none⟩ = some ((.slice qa3 ql3 qc3))) (first | go_keep | (refine ⟨(hb3.cell ?_).trans ?_, (hb3.cell ?_).trans ?_, (hb3.cell ?_).trans ?_, (hb3.cell ?_).trans ?_, (hb3.cell ?_).trans ?_, (hb3.cell ?_).trans ?_, (hb3.cell ?_).trans ?_, (hb3.cell ?_).trans ?_, (hb3.cell ?_).trans ?_⟩ <;> first | assumption | (simp [*]; done) | (simp; omega))) (first | (go_at_call 130; refine (c_iSamePatch x y _ _ _ _ _ _ _ (T.rd_below R11.out (by repeat (first | with_reducible exact Below.refl _ _ | with_reducible refine Below.alloc ?_ (Nat.le_refl _) _ | with_reducible refine Below.drew ?_ | with_reducible refine below_drewN ?_ _))) (T.rd_below R12.out (by repeat (first | with_reducible exact Below.refl _ _ | with_reducible refine Below.alloc ?_ (Nat.le_refl _) _ | with_reducible refine Below.drew ?_ | with_reducible refine below_drewN ?_ _))) (T.rd_below R13.out (by repeat (first | with_reducible exact Below.refl _ _ | with_reducible refine Below.alloc ?_ (Nat.le_refl _) _ | with_reducible refine Below.drew ?_ | with_reducible refine below_drewN ?_ _))) (T.rd_below R21.out (by repeat (first | with_reducible exact Below.refl _ _ | with_reducible refine Below.alloc ?_ (Nat.le_refl _) _ | with_reducible refine Below.drew ?_ | with_reducible refine below_drewN ?_ _))) (T.rd_below R22.out (by repeat (first | with_reducible exact Below.refl _ _ | with_reducible refine Below.alloc ?_ (Nat.le_refl _) _ | with_reducible refine Below.drew ?_ | with_reducible refine below_drewN ?_ _))) (T.rd_below R23.out (by repeat (first | with_reducible exact Below.refl _ _ | with_reducible refine Below.alloc ?_ (Nat.le_refl _) _ | with_reducible refine Below.drew ?_ | with_reducible refine below_drewN ?_ _)))).mono ?_; rintro e w3 ⟨rfl, hb3⟩; rw [hde]))
                        have hb4 : Below wr.heap.size wr w3 := by first | exact below_of_alloc hb3 | exact below_of_alloc (undrew hb3) | exact below_of_alloc (undrewN hb3) | exact hb3 | exact undrew hb3 | exact undrewN hb3
                        have HC := hide (bthen HW.out HW.out.size hb4); have HC2 := hide (bthen HB.out HB.out.size hb4); clear hb4 hb3
                        go_wp2
                        go_ret
                        have hne := ne_at HG1.out HG2.out HE.out
                        exact ⟨ret_bool (by rw [HAB.out]; simp [H0.out, H1.out, H3.out, H5.out, HALL2.out, hne]), (by first | exact HC2.out | exact HC2.out.drew | exact below_drewN HC2.out _)⟩
                    · have hall := eq_of_takes (k := k) (by omega) HL4.out HS.out
                      have HALL4 := hide hall; clear hall
                      go_wp2
                      go_ret
                      exact ⟨ret_bool (by rw [HAB.out]; simp [H0.out, H1.out, H3.out, H5.out, HALL2.out, HALL4.out]), HB.out⟩
            · have c5 : decide (a.fMixer = b.fMixer) = false := by simp [h5]
              have H5 := hide h5; clear h5
              go_enter Tryz.func65, Tryz.ntmps65
              go_wp2_with fail
              refine (c_sameAll _ _ a.fSources b.fSources _ (T.rd_below R1.out HB0.out) (T.rd_below Q1.out HB0.out)).mono ?_; rintro e w1 ⟨rfl, hd⟩; rw [c1]
              have hb : Below ((w.alloc (.cells #[.int .i64 a.fLength, (.slice va1 vl1 vc1), (.slice va2 a.fTracks.length vc2), (.slice va3 vl3 vc3), (.slice va4 a.fEffects.length vc4), (.slice va5 vl5 vc5)] 62)).alloc (.cells #[.int .i64 b.fLength, (.slice ua1 ul1 uc1), (.slice ua2 b.fTracks.length uc2), (.slice ua3 ul3 uc3), (.slice ua4 b.fEffects.length uc4), (.slice ua5 ul5 uc5)] 62)).heap.size ((w.alloc (.cells #[.int .i64 a.fLength, (.slice va1 vl1 vc1), (.slice va2 a.fTracks.length vc2), (.slice va3 vl3 vc3), (.slice va4 a.fEffects.length vc4), (.slice va5 vl5 vc5)] 62)).alloc (.cells #[.int .i64 b.fLength, (.slice ua1 ul1 uc1), (.slice ua2 b.fTracks.length uc2), (.slice ua3 ul3 uc3), (.slice ua4 b.fEffects.length uc4), (.slice ua5 ul5 uc5)] 62)) w1 := by first | exact hd.to_below _ | exact hd
              have HKA1 := hide (HKA0.out.below hb HKA0.out.lt); have HKB1 := hide (HKB0.out.below hb HKB0.out.lt); have HB1 := hide (bthen HB0.out HB0.out.size hb); clear hb hd
              have ka1 := HKA1.out.cell; have kb1 := HKB1.out.cell
              go_wp2_with fail
              refine (c_same _ _ a.fFeeds b.fFeeds _ (T.rd_ints.1 (T.rd_below R3.out HB1.out)) (T.rd_ints.1 (T.rd_below Q3.out HB1.out))).mono ?_; rintro e w2 ⟨rfl, hd⟩; rw [c3]
              have hb : Below w1.heap.size w1 w2 := by first | exact hd.to_below _ | exact hd
              have HKA2 := hide (HKA1.out.below hb HKA1.out.lt); have HKB2 := hide (HKB1.out.below hb HKB1.out.lt); have HB2 := hide (bthen HB1.out HB1.out.size hb); clear hb hd
              have ka2 := HKA2.out.cell; have kb2 := HKB2.out.cell
              go_wp2_with fail
              refine (c_iSameMixer a.fMixer b.fMixer _ _ _ (T.rd_below R5.out HB2.out) (T.rd_below Q5.out HB2.out)).mono ?_; rintro e w3 ⟨rfl, hd⟩; rw [c5]
              have hb : Below w2.heap.size w2 w3 := by first | exact hd.to_below _ | exact hd
              have HKA3 := hide (HKA2.out.below hb HKA2.out.lt); have HKB3 := hide (HKB2.out.below hb HKB2.out.lt); have HB3 := hide (bthen HB2.out HB2.out.size hb); clear hb hd
              have ka3 := HKA3.out.cell; have kb3 := HKB3.out.cell
              go_wp2
              go_ret
              exact ⟨ret_bool (by rw [HAB.out]; simp [H0.out, H1.out, H3.out, H5.out]), HB3.out⟩
          · have e4 : ((a.fEffects.length : Int) != (b.fEffects.length : Int)) = true := by simp; omega
            have H4 := hide (show ¬ a.fEffects = b.fEffects from fun e => h4 (by rw [e])); clear h4
            go_enter Tryz.func65, Tryz.ntmps65
            go_wp2_with fail
            refine (c_sameAll _ _ a.fSources b.fSources _ (T.rd_below R1.out HB0.out) (T.rd_below Q1.out HB0.out)).mono ?_; rintro e w1 ⟨rfl, hd⟩; rw [c1]
            have hb : Below ((w.alloc (.cells #[.int .i64 a.fLength, (.slice va1 vl1 vc1), (.slice va2 a.fTracks.length vc2), (.slice va3 vl3 vc3), (.slice va4 a.fEffects.length vc4), (.slice va5 vl5 vc5)] 62)).alloc (.cells #[.int .i64 b.fLength, (.slice ua1 ul1 uc1), (.slice ua2 b.fTracks.length uc2), (.slice ua3 ul3 uc3), (.slice ua4 b.fEffects.length uc4), (.slice ua5 ul5 uc5)] 62)).heap.size ((w.alloc (.cells #[.int .i64 a.fLength, (.slice va1 vl1 vc1), (.slice va2 a.fTracks.length vc2), (.slice va3 vl3 vc3), (.slice va4 a.fEffects.length vc4), (.slice va5 vl5 vc5)] 62)).alloc (.cells #[.int .i64 b.fLength, (.slice ua1 ul1 uc1), (.slice ua2 b.fTracks.length uc2), (.slice ua3 ul3 uc3), (.slice ua4 b.fEffects.length uc4), (.slice ua5 ul5 uc5)] 62)) w1 := by first | exact hd.to_below _ | exact hd
            have HKA1 := hide (HKA0.out.below hb HKA0.out.lt); have HKB1 := hide (HKB0.out.below hb HKB0.out.lt); have HB1 := hide (bthen HB0.out HB0.out.size hb); clear hb hd
            have ka1 := HKA1.out.cell; have kb1 := HKB1.out.cell
            go_wp2_with fail
            refine (c_same _ _ a.fFeeds b.fFeeds _ (T.rd_ints.1 (T.rd_below R3.out HB1.out)) (T.rd_ints.1 (T.rd_below Q3.out HB1.out))).mono ?_; rintro e w2 ⟨rfl, hd⟩; rw [c3]
            have hb : Below w1.heap.size w1 w2 := by first | exact hd.to_below _ | exact hd
            have HKA2 := hide (HKA1.out.below hb HKA1.out.lt); have HKB2 := hide (HKB1.out.below hb HKB1.out.lt); have HB2 := hide (bthen HB1.out HB1.out.size hb); clear hb hd
            have ka2 := HKA2.out.cell; have kb2 := HKB2.out.cell
            go_wp2
            go_ret
            exact ⟨ret_bool (by rw [HAB.out]; simp [H0.out, H1.out, H3.out, H4.out]), HB2.out⟩
        · have c3 : decide (a.fFeeds = b.fFeeds) = false := by simp [h3]
          have H3 := hide h3; clear h3
          go_enter Tryz.func65, Tryz.ntmps65
          go_wp2_with fail
          refine (c_sameAll _ _ a.fSources b.fSources _ (T.rd_below R1.out HB0.out) (T.rd_below Q1.out HB0.out)).mono ?_; rintro e w1 ⟨rfl, hd⟩; rw [c1]
          have hb : Below ((w.alloc (.cells #[.int .i64 a.fLength, (.slice va1 vl1 vc1), (.slice va2 a.fTracks.length vc2), (.slice va3 vl3 vc3), (.slice va4 a.fEffects.length vc4), (.slice va5 vl5 vc5)] 62)).alloc (.cells #[.int .i64 b.fLength, (.slice ua1 ul1 uc1), (.slice ua2 b.fTracks.length uc2), (.slice ua3 ul3 uc3), (.slice ua4 b.fEffects.length uc4), (.slice ua5 ul5 uc5)] 62)).heap.size ((w.alloc (.cells #[.int .i64 a.fLength, (.slice va1 vl1 vc1), (.slice va2 a.fTracks.length vc2), (.slice va3 vl3 vc3), (.slice va4 a.fEffects.length vc4), (.slice va5 vl5 vc5)] 62)).alloc (.cells #[.int .i64 b.fLength, (.slice ua1 ul1 uc1), (.slice ua2 b.fTracks.length uc2), (.slice ua3 ul3 uc3), (.slice ua4 b.fEffects.length uc4), (.slice ua5 ul5 uc5)] 62)) w1 := by first | exact hd.to_below _ | exact hd
          have HKA1 := hide (HKA0.out.below hb HKA0.out.lt); have HKB1 := hide (HKB0.out.below hb HKB0.out.lt); have HB1 := hide (bthen HB0.out HB0.out.size hb); clear hb hd
          have ka1 := HKA1.out.cell; have kb1 := HKB1.out.cell
          go_wp2_with fail
          refine (c_same _ _ a.fFeeds b.fFeeds _ (T.rd_ints.1 (T.rd_below R3.out HB1.out)) (T.rd_ints.1 (T.rd_below Q3.out HB1.out))).mono ?_; rintro e w2 ⟨rfl, hd⟩; rw [c3]
          have hb : Below w1.heap.size w1 w2 := by first | exact hd.to_below _ | exact hd
          have HKA2 := hide (HKA1.out.below hb HKA1.out.lt); have HKB2 := hide (HKB1.out.below hb HKB1.out.lt); have HB2 := hide (bthen HB1.out HB1.out.size hb); clear hb hd
          have ka2 := HKA2.out.cell; have kb2 := HKB2.out.cell
          go_wp2
          go_ret
          exact ⟨ret_bool (by rw [HAB.out]; simp [H0.out, H1.out, H3.out]), HB2.out⟩
      · have e2 : ((a.fTracks.length : Int) != (b.fTracks.length : Int)) = true := by simp; omega
        have H2 := hide (show ¬ a.fTracks = b.fTracks from fun e => h2 (by rw [e])); clear h2
        go_enter Tryz.func65, Tryz.ntmps65
        go_wp2_with fail
        refine (c_sameAll _ _ a.fSources b.fSources _ (T.rd_below R1.out HB0.out) (T.rd_below Q1.out HB0.out)).mono ?_; rintro e w1 ⟨rfl, hd⟩; rw [c1]
        have hb : Below ((w.alloc (.cells #[.int .i64 a.fLength, (.slice va1 vl1 vc1), (.slice va2 a.fTracks.length vc2), (.slice va3 vl3 vc3), (.slice va4 a.fEffects.length vc4), (.slice va5 vl5 vc5)] 62)).alloc (.cells #[.int .i64 b.fLength, (.slice ua1 ul1 uc1), (.slice ua2 b.fTracks.length uc2), (.slice ua3 ul3 uc3), (.slice ua4 b.fEffects.length uc4), (.slice ua5 ul5 uc5)] 62)).heap.size ((w.alloc (.cells #[.int .i64 a.fLength, (.slice va1 vl1 vc1), (.slice va2 a.fTracks.length vc2), (.slice va3 vl3 vc3), (.slice va4 a.fEffects.length vc4), (.slice va5 vl5 vc5)] 62)).alloc (.cells #[.int .i64 b.fLength, (.slice ua1 ul1 uc1), (.slice ua2 b.fTracks.length uc2), (.slice ua3 ul3 uc3), (.slice ua4 b.fEffects.length uc4), (.slice ua5 ul5 uc5)] 62)) w1 := by first | exact hd.to_below _ | exact hd
        have HKA1 := hide (HKA0.out.below hb HKA0.out.lt); have HKB1 := hide (HKB0.out.below hb HKB0.out.lt); have HB1 := hide (bthen HB0.out HB0.out.size hb); clear hb hd
        have ka1 := HKA1.out.cell; have kb1 := HKB1.out.cell
        go_wp2
        go_ret
        exact ⟨ret_bool (by rw [HAB.out]; simp [H0.out, H1.out, H2.out]), HB1.out⟩
    · have c1 : decide (a.fSources = b.fSources) = false := by simp [h1]
      have H1 := hide h1; clear h1
      go_enter Tryz.func65, Tryz.ntmps65
      go_wp2_with fail
      refine (c_sameAll _ _ a.fSources b.fSources _ (T.rd_below R1.out HB0.out) (T.rd_below Q1.out HB0.out)).mono ?_; rintro e w1 ⟨rfl, hd⟩; rw [c1]
      have hb : Below ((w.alloc (.cells #[.int .i64 a.fLength, (.slice va1 vl1 vc1), (.slice va2 a.fTracks.length vc2), (.slice va3 vl3 vc3), (.slice va4 a.fEffects.length vc4), (.slice va5 vl5 vc5)] 62)).alloc (.cells #[.int .i64 b.fLength, (.slice ua1 ul1 uc1), (.slice ua2 b.fTracks.length uc2), (.slice ua3 ul3 uc3), (.slice ua4 b.fEffects.length uc4), (.slice ua5 ul5 uc5)] 62)).heap.size ((w.alloc (.cells #[.int .i64 a.fLength, (.slice va1 vl1 vc1), (.slice va2 a.fTracks.length vc2), (.slice va3 vl3 vc3), (.slice va4 a.fEffects.length vc4), (.slice va5 vl5 vc5)] 62)).alloc (.cells #[.int .i64 b.fLength, (.slice ua1 ul1 uc1), (.slice ua2 b.fTracks.length uc2), (.slice ua3 ul3 uc3), (.slice ua4 b.fEffects.length uc4), (.slice ua5 ul5 uc5)] 62)) w1 := by first | exact hd.to_below _ | exact hd
      have HKA1 := hide (HKA0.out.below hb HKA0.out.lt); have HKB1 := hide (HKB0.out.below hb HKB0.out.lt); have HB1 := hide (bthen HB0.out HB0.out.size hb); clear hb hd
      have ka1 := HKA1.out.cell; have kb1 := HKB1.out.cell
      go_wp2
      go_ret
      exact ⟨ret_bool (by rw [HAB.out]; simp [H0.out, H1.out]), HB1.out⟩
  · have e0 : (a.fLength != b.fLength) = true := by simp [h0]
    have H0 := hide h0; clear h0
    go_enter Tryz.func65, Tryz.ntmps65
    go_wp2
    go_ret
    exact ⟨ret_bool (by rw [HAB.out]; simp [H0.out]), HB0.out⟩
set_option maxHeartbeats 1000000 in
set_option maxRecDepth 20000 in
theorem c_iSameDesk (a b : GDesk) (v0 : Value) (v1 : Value) (v6 : Value) (v7 : Value) (v9 : Value) (v10 : Value) (v11 : Value) (v12 : Value) (v13 : Value) (u0 : Value) (u1 : Value) (u6 : Value) (u7 : Value) (u9 : Value) (u10 : Value) (u11 : Value) (u12 : Value) (u13 : Value) (w : World) (r0 : T.rd w (T.sl 183 7 (a.fScore.fNotes.map GNote.t)) [v0]) (r1 : T.rd w (T.sl 185 3 (a.fTempos.fTempos.map GTempo.t)) [v1]) (r6 : T.rd w (T.sl 52 2 (a.fTuning.fRatios.map GFrac.t)) [v6]) (r7 : T.rd w (T.ints 2 a.fSignal) [v7]) (r9 : T.rd w (T.sl 33 1 (a.fSession.fSources.map (T.ints 2))) [v9]) (r10 : T.rd w (T.sl 146 1 (a.fSession.fTracks.map GTrack.t)) [v10]) (r11 : T.rd w (T.ints 2 a.fSession.fFeeds) [v11]) (r12 : T.rd w (T.sl 157 4 (a.fSession.fEffects.map GPatch.t)) [v12]) (r13 : T.rd w (T.sl 151 3 (a.fSession.fMixer.fStrips.map GStrip.t)) [v13]) (t0 : T.rd w (T.sl 183 7 (b.fScore.fNotes.map GNote.t)) [u0]) (t1 : T.rd w (T.sl 185 3 (b.fTempos.fTempos.map GTempo.t)) [u1]) (t6 : T.rd w (T.sl 52 2 (b.fTuning.fRatios.map GFrac.t)) [u6]) (t7 : T.rd w (T.ints 2 b.fSignal) [u7]) (t9 : T.rd w (T.sl 33 1 (b.fSession.fSources.map (T.ints 2))) [u9]) (t10 : T.rd w (T.sl 146 1 (b.fSession.fTracks.map GTrack.t)) [u10]) (t11 : T.rd w (T.ints 2 b.fSession.fFeeds) [u11]) (t12 : T.rd w (T.sl 157 4 (b.fSession.fEffects.map GPatch.t)) [u12]) (t13 : T.rd w (T.sl 151 3 (b.fSession.fMixer.fStrips.map GStrip.t)) [u13]) :
    Calls Tryz.prog 14 #[.agg #[v0, v1, .int .i64 a.fTuning.fBase.fNum, .int .i64 a.fTuning.fBase.fDen, .int .i64 a.fTuning.fOctave.fNum, .int .i64 a.fTuning.fOctave.fDen, v6, v7, .int .i64 a.fSession.fLength, v9, v10, v11, v12, v13], .agg #[u0, u1, .int .i64 b.fTuning.fBase.fNum, .int .i64 b.fTuning.fBase.fDen, .int .i64 b.fTuning.fOctave.fNum, .int .i64 b.fTuning.fOctave.fDen, u6, u7, .int .i64 b.fSession.fLength, u9, u10, u11, u12, u13]] w fun e w' => e = .returned (.bool (decide (a = b))) ∧ Below w.heap.size w w' := by
  have hab : decide (a = b) = (decide (a.fScore = b.fScore) && (decide (a.fTempos = b.fTempos) && (decide (a.fTuning = b.fTuning) && (decide (a.fSignal = b.fSignal) && (decide (a.fSession = b.fSession)))))) := by
    obtain ⟨x0, x1, x2, x3, x4⟩ := a
    obtain ⟨y0, y1, y2, y3, y4⟩ := b
    rw [Bool.eq_iff_iff]
    simp only [GDesk.mk.injEq, decide_eq_true_eq, Bool.and_eq_true]
    try (constructor <;> (intro h; simp [h]))
  have R0 := hide r0; have Q0 := hide t0
  have R1 := hide r1; have Q1 := hide t1
  have R6 := hide r6; have Q6 := hide t6
  have R7 := hide r7; have Q7 := hide t7
  have R9 := hide r9; have Q9 := hide t9
  have R10 := hide r10; have Q10 := hide t10
  have R11 := hide r11; have Q11 := hide t11
  have R12 := hide r12; have Q12 := hide t12
  have R13 := hide r13; have Q13 := hide t13
  obtain ⟨va0, vl0, vc0, rfl⟩ := T.rd_slice r0
  obtain ⟨ua0, ul0, uc0, rfl⟩ := T.rd_slice t0
  obtain ⟨va1, vl1, vc1, rfl⟩ := T.rd_slice r1
  obtain ⟨ua1, ul1, uc1, rfl⟩ := T.rd_slice t1
  obtain ⟨va6, vl6, vc6, rfl⟩ := T.rd_slice r6
  obtain ⟨ua6, ul6, uc6, rfl⟩ := T.rd_slice t6
  obtain ⟨va7, vl7, vc7, rfl⟩ := T.rd_slice r7
  obtain ⟨ua7, ul7, uc7, rfl⟩ := T.rd_slice t7
  obtain ⟨va9, vl9, vc9, rfl⟩ := T.rd_slice r9
  obtain ⟨ua9, ul9, uc9, rfl⟩ := T.rd_slice t9
  obtain ⟨va10, vl10, vc10, rfl⟩ := T.rd_slice r10
  obtain ⟨ua10, ul10, uc10, rfl⟩ := T.rd_slice t10
  obtain ⟨va11, vl11, vc11, rfl⟩ := T.rd_slice r11
  obtain ⟨ua11, ul11, uc11, rfl⟩ := T.rd_slice t11
  obtain ⟨va12, vl12, vc12, rfl⟩ := T.rd_slice r12
  obtain ⟨ua12, ul12, uc12, rfl⟩ := T.rd_slice t12
  obtain ⟨va13, vl13, vc13, rfl⟩ := T.rd_slice r13
  obtain ⟨ua13, ul13, uc13, rfl⟩ := T.rd_slice t13
  clear r0 t0 r1 t1 r6 t6 r7 t7 r9 t9 r10 t10 r11 t11 r12 t12 r13 t13
  have HAB := hide hab; clear hab
  have HB0 := hide (show Below w.heap.size w ((w.alloc (.cells #[(.slice va0 vl0 vc0), (.slice va1 vl1 vc1), .int .i64 a.fTuning.fBase.fNum, .int .i64 a.fTuning.fBase.fDen, .int .i64 a.fTuning.fOctave.fNum, .int .i64 a.fTuning.fOctave.fDen, (.slice va6 vl6 vc6), (.slice va7 vl7 vc7), .int .i64 a.fSession.fLength, (.slice va9 vl9 vc9), (.slice va10 vl10 vc10), (.slice va11 vl11 vc11), (.slice va12 vl12 vc12), (.slice va13 vl13 vc13)] 64)).alloc (.cells #[(.slice ua0 ul0 uc0), (.slice ua1 ul1 uc1), .int .i64 b.fTuning.fBase.fNum, .int .i64 b.fTuning.fBase.fDen, .int .i64 b.fTuning.fOctave.fNum, .int .i64 b.fTuning.fOctave.fDen, (.slice ua6 ul6 uc6), (.slice ua7 ul7 uc7), .int .i64 b.fSession.fLength, (.slice ua9 ul9 uc9), (.slice ua10 ul10 uc10), (.slice ua11 ul11 uc11), (.slice ua12 ul12 uc12), (.slice ua13 ul13 uc13)] 64)) from ((Below.refl _ _).alloc (Nat.le_refl _) _).alloc (by first | (simp; done) | (simp; omega) | omega) _)
  have HKA0 := hide ((Bk.born w 64 #[(.slice va0 vl0 vc0), (.slice va1 vl1 vc1), .int .i64 a.fTuning.fBase.fNum, .int .i64 a.fTuning.fBase.fDen, .int .i64 a.fTuning.fOctave.fNum, .int .i64 a.fTuning.fOctave.fDen, (.slice va6 vl6 vc6), (.slice va7 vl7 vc7), .int .i64 a.fSession.fLength, (.slice va9 vl9 vc9), (.slice va10 vl10 vc10), (.slice va11 vl11 vc11), (.slice va12 vl12 vc12), (.slice va13 vl13 vc13)]).alloc (.cells #[(.slice ua0 ul0 uc0), (.slice ua1 ul1 uc1), .int .i64 b.fTuning.fBase.fNum, .int .i64 b.fTuning.fBase.fDen, .int .i64 b.fTuning.fOctave.fNum, .int .i64 b.fTuning.fOctave.fDen, (.slice ua6 ul6 uc6), (.slice ua7 ul7 uc7), .int .i64 b.fSession.fLength, (.slice ua9 ul9 uc9), (.slice ua10 ul10 uc10), (.slice ua11 ul11 uc11), (.slice ua12 ul12 uc12), (.slice ua13 ul13 uc13)] 64))
  have HKB0 := hide (Bk.born1' w (.cells #[(.slice va0 vl0 vc0), (.slice va1 vl1 vc1), .int .i64 a.fTuning.fBase.fNum, .int .i64 a.fTuning.fBase.fDen, .int .i64 a.fTuning.fOctave.fNum, .int .i64 a.fTuning.fOctave.fDen, (.slice va6 vl6 vc6), (.slice va7 vl7 vc7), .int .i64 a.fSession.fLength, (.slice va9 vl9 vc9), (.slice va10 vl10 vc10), (.slice va11 vl11 vc11), (.slice va12 vl12 vc12), (.slice va13 vl13 vc13)] 64) 64 #[(.slice ua0 ul0 uc0), (.slice ua1 ul1 uc1), .int .i64 b.fTuning.fBase.fNum, .int .i64 b.fTuning.fBase.fDen, .int .i64 b.fTuning.fOctave.fNum, .int .i64 b.fTuning.fOctave.fDen, (.slice ua6 ul6 uc6), (.slice ua7 ul7 uc7), .int .i64 b.fSession.fLength, (.slice ua9 ul9 uc9), (.slice ua10 ul10 uc10), (.slice ua11 ul11 uc11), (.slice ua12 ul12 uc12), (.slice ua13 ul13 uc13)])
  by_cases h0 : a.fScore = b.fScore
  · have c0 : decide (a.fScore = b.fScore) = true := by simp [h0]
    have H0 := hide h0; clear h0
    by_cases h1 : a.fTempos = b.fTempos
    · have c1 : decide (a.fTempos = b.fTempos) = true := by simp [h1]
      have H1 := hide h1; clear h1
      by_cases h2 : a.fTuning = b.fTuning
      · have c2 : decide (a.fTuning = b.fTuning) = true := by simp [h2]
        have H2 := hide h2; clear h2
        by_cases h3 : a.fSignal = b.fSignal
        · have c3 : decide (a.fSignal = b.fSignal) = true := by simp [h3]
          have H3 := hide h3; clear h3
          by_cases h4 : a.fSession = b.fSession
          · have c4 : decide (a.fSession = b.fSession) = true := by simp [h4]
            have H4 := hide h4; clear h4
            go_enter Tryz.func14, Tryz.ntmps14
            go_wp2_with fail
            refine (c_iSameScore a.fScore b.fScore _ _ _ (T.rd_below R0.out HB0.out) (T.rd_below Q0.out HB0.out)).mono ?_; rintro e w1 ⟨rfl, hd⟩; rw [c0]
            have hb : Below (((w.alloc (.cells #[(.slice va0 vl0 vc0), (.slice va1 vl1 vc1), .int .i64 a.fTuning.fBase.fNum, .int .i64 a.fTuning.fBase.fDen, .int .i64 a.fTuning.fOctave.fNum, .int .i64 a.fTuning.fOctave.fDen, (.slice va6 vl6 vc6), (.slice va7 vl7 vc7), .int .i64 a.fSession.fLength, (.slice va9 vl9 vc9), (.slice va10 vl10 vc10), (.slice va11 vl11 vc11), (.slice va12 vl12 vc12), (.slice va13 vl13 vc13)] 64)).alloc (.cells #[(.slice ua0 ul0 uc0), (.slice ua1 ul1 uc1), .int .i64 b.fTuning.fBase.fNum, .int .i64 b.fTuning.fBase.fDen, .int .i64 b.fTuning.fOctave.fNum, .int .i64 b.fTuning.fOctave.fDen, (.slice ua6 ul6 uc6), (.slice ua7 ul7 uc7), .int .i64 b.fSession.fLength, (.slice ua9 ul9 uc9), (.slice ua10 ul10 uc10), (.slice ua11 ul11 uc11), (.slice ua12 ul12 uc12), (.slice ua13 ul13 uc13)] 64))).heap.size ((w.alloc (.cells #[(.slice va0 vl0 vc0), (.slice va1 vl1 vc1), .int .i64 a.fTuning.fBase.fNum, .int .i64 a.fTuning.fBase.fDen, .int .i64 a.fTuning.fOctave.fNum, .int .i64 a.fTuning.fOctave.fDen, (.slice va6 vl6 vc6), (.slice va7 vl7 vc7), .int .i64 a.fSession.fLength, (.slice va9 vl9 vc9), (.slice va10 vl10 vc10), (.slice va11 vl11 vc11), (.slice va12 vl12 vc12), (.slice va13 vl13 vc13)] 64)).alloc (.cells #[(.slice ua0 ul0 uc0), (.slice ua1 ul1 uc1), .int .i64 b.fTuning.fBase.fNum, .int .i64 b.fTuning.fBase.fDen, .int .i64 b.fTuning.fOctave.fNum, .int .i64 b.fTuning.fOctave.fDen, (.slice ua6 ul6 uc6), (.slice ua7 ul7 uc7), .int .i64 b.fSession.fLength, (.slice ua9 ul9 uc9), (.slice ua10 ul10 uc10), (.slice ua11 ul11 uc11), (.slice ua12 ul12 uc12), (.slice ua13 ul13 uc13)] 64)) w1 := by first | exact hd.to_below _ | exact hd
            have HKA1 := hide (HKA0.out.below hb HKA0.out.lt); have HKB1 := hide (HKB0.out.below hb HKB0.out.lt); have HB1 := hide (bthen HB0.out HB0.out.size hb); clear hb hd
            have ka1 := HKA1.out.cell; have kb1 := HKB1.out.cell
            go_wp2_with fail
            refine (c_iSameTempos a.fTempos b.fTempos _ _ _ (T.rd_below R1.out HB1.out) (T.rd_below Q1.out HB1.out)).mono ?_; rintro e w2 ⟨rfl, hd⟩; rw [c1]
            have hb : Below w1.heap.size w1 w2 := by first | exact hd.to_below _ | exact hd
            have HKA2 := hide (HKA1.out.below hb HKA1.out.lt); have HKB2 := hide (HKB1.out.below hb HKB1.out.lt); have HB2 := hide (bthen HB1.out HB1.out.size hb); clear hb hd
            have ka2 := HKA2.out.cell; have kb2 := HKB2.out.cell
            go_wp2_with fail
            refine (c_iSameTuning a.fTuning b.fTuning _ _ _ (T.rd_below R6.out HB2.out) (T.rd_below Q6.out HB2.out)).mono ?_; rintro e w3 ⟨rfl, hd⟩; rw [c2]
            have hb : Below w2.heap.size w2 w3 := by first | exact hd.to_below _ | exact hd
            have HKA3 := hide (HKA2.out.below hb HKA2.out.lt); have HKB3 := hide (HKB2.out.below hb HKB2.out.lt); have HB3 := hide (bthen HB2.out HB2.out.size hb); clear hb hd
            have ka3 := HKA3.out.cell; have kb3 := HKB3.out.cell
            go_wp2_with fail
            refine (c_same _ _ a.fSignal b.fSignal _ (T.rd_ints.1 (T.rd_below R7.out HB3.out)) (T.rd_ints.1 (T.rd_below Q7.out HB3.out))).mono ?_; rintro e w4 ⟨rfl, hd⟩; rw [c3]
            have hb : Below w3.heap.size w3 w4 := by first | exact hd.to_below _ | exact hd
            have HKA4 := hide (HKA3.out.below hb HKA3.out.lt); have HKB4 := hide (HKB3.out.below hb HKB3.out.lt); have HB4 := hide (bthen HB3.out HB3.out.size hb); clear hb hd
            have ka4 := HKA4.out.cell; have kb4 := HKB4.out.cell
            go_wp2_with fail
            refine (c_iSameSession a.fSession b.fSession _ _ _ _ _ _ _ _ _ _ _ (T.rd_below R9.out HB4.out) (T.rd_below R10.out HB4.out) (T.rd_below R11.out HB4.out) (T.rd_below R12.out HB4.out) (T.rd_below R13.out HB4.out) (T.rd_below Q9.out HB4.out) (T.rd_below Q10.out HB4.out) (T.rd_below Q11.out HB4.out) (T.rd_below Q12.out HB4.out) (T.rd_below Q13.out HB4.out)).mono ?_; rintro e w5 ⟨rfl, hd⟩; rw [c4]
            have hb : Below w4.heap.size w4 w5 := by first | exact hd.to_below _ | exact hd
            have HKA5 := hide (HKA4.out.below hb HKA4.out.lt); have HKB5 := hide (HKB4.out.below hb HKB4.out.lt); have HB5 := hide (bthen HB4.out HB4.out.size hb); clear hb hd
            have ka5 := HKA5.out.cell; have kb5 := HKB5.out.cell
            go_wp2
            go_ret
            exact ⟨ret_bool (by rw [HAB.out]; simp [H0.out, H1.out, H2.out, H3.out, H4.out]), HB5.out⟩
          · have c4 : decide (a.fSession = b.fSession) = false := by simp [h4]
            have H4 := hide h4; clear h4
            go_enter Tryz.func14, Tryz.ntmps14
            go_wp2_with fail
            refine (c_iSameScore a.fScore b.fScore _ _ _ (T.rd_below R0.out HB0.out) (T.rd_below Q0.out HB0.out)).mono ?_; rintro e w1 ⟨rfl, hd⟩; rw [c0]
            have hb : Below (((w.alloc (.cells #[(.slice va0 vl0 vc0), (.slice va1 vl1 vc1), .int .i64 a.fTuning.fBase.fNum, .int .i64 a.fTuning.fBase.fDen, .int .i64 a.fTuning.fOctave.fNum, .int .i64 a.fTuning.fOctave.fDen, (.slice va6 vl6 vc6), (.slice va7 vl7 vc7), .int .i64 a.fSession.fLength, (.slice va9 vl9 vc9), (.slice va10 vl10 vc10), (.slice va11 vl11 vc11), (.slice va12 vl12 vc12), (.slice va13 vl13 vc13)] 64)).alloc (.cells #[(.slice ua0 ul0 uc0), (.slice ua1 ul1 uc1), .int .i64 b.fTuning.fBase.fNum, .int .i64 b.fTuning.fBase.fDen, .int .i64 b.fTuning.fOctave.fNum, .int .i64 b.fTuning.fOctave.fDen, (.slice ua6 ul6 uc6), (.slice ua7 ul7 uc7), .int .i64 b.fSession.fLength, (.slice ua9 ul9 uc9), (.slice ua10 ul10 uc10), (.slice ua11 ul11 uc11), (.slice ua12 ul12 uc12), (.slice ua13 ul13 uc13)] 64))).heap.size ((w.alloc (.cells #[(.slice va0 vl0 vc0), (.slice va1 vl1 vc1), .int .i64 a.fTuning.fBase.fNum, .int .i64 a.fTuning.fBase.fDen, .int .i64 a.fTuning.fOctave.fNum, .int .i64 a.fTuning.fOctave.fDen, (.slice va6 vl6 vc6), (.slice va7 vl7 vc7), .int .i64 a.fSession.fLength, (.slice va9 vl9 vc9), (.slice va10 vl10 vc10), (.slice va11 vl11 vc11), (.slice va12 vl12 vc12), (.slice va13 vl13 vc13)] 64)).alloc (.cells #[(.slice ua0 ul0 uc0), (.slice ua1 ul1 uc1), .int .i64 b.fTuning.fBase.fNum, .int .i64 b.fTuning.fBase.fDen, .int .i64 b.fTuning.fOctave.fNum, .int .i64 b.fTuning.fOctave.fDen, (.slice ua6 ul6 uc6), (.slice ua7 ul7 uc7), .int .i64 b.fSession.fLength, (.slice ua9 ul9 uc9), (.slice ua10 ul10 uc10), (.slice ua11 ul11 uc11), (.slice ua12 ul12 uc12), (.slice ua13 ul13 uc13)] 64)) w1 := by first | exact hd.to_below _ | exact hd
            have HKA1 := hide (HKA0.out.below hb HKA0.out.lt); have HKB1 := hide (HKB0.out.below hb HKB0.out.lt); have HB1 := hide (bthen HB0.out HB0.out.size hb); clear hb hd
            have ka1 := HKA1.out.cell; have kb1 := HKB1.out.cell
            go_wp2_with fail
            refine (c_iSameTempos a.fTempos b.fTempos _ _ _ (T.rd_below R1.out HB1.out) (T.rd_below Q1.out HB1.out)).mono ?_; rintro e w2 ⟨rfl, hd⟩; rw [c1]
            have hb : Below w1.heap.size w1 w2 := by first | exact hd.to_below _ | exact hd
            have HKA2 := hide (HKA1.out.below hb HKA1.out.lt); have HKB2 := hide (HKB1.out.below hb HKB1.out.lt); have HB2 := hide (bthen HB1.out HB1.out.size hb); clear hb hd
            have ka2 := HKA2.out.cell; have kb2 := HKB2.out.cell
            go_wp2_with fail
            refine (c_iSameTuning a.fTuning b.fTuning _ _ _ (T.rd_below R6.out HB2.out) (T.rd_below Q6.out HB2.out)).mono ?_; rintro e w3 ⟨rfl, hd⟩; rw [c2]
            have hb : Below w2.heap.size w2 w3 := by first | exact hd.to_below _ | exact hd
            have HKA3 := hide (HKA2.out.below hb HKA2.out.lt); have HKB3 := hide (HKB2.out.below hb HKB2.out.lt); have HB3 := hide (bthen HB2.out HB2.out.size hb); clear hb hd
            have ka3 := HKA3.out.cell; have kb3 := HKB3.out.cell
            go_wp2_with fail
            refine (c_same _ _ a.fSignal b.fSignal _ (T.rd_ints.1 (T.rd_below R7.out HB3.out)) (T.rd_ints.1 (T.rd_below Q7.out HB3.out))).mono ?_; rintro e w4 ⟨rfl, hd⟩; rw [c3]
            have hb : Below w3.heap.size w3 w4 := by first | exact hd.to_below _ | exact hd
            have HKA4 := hide (HKA3.out.below hb HKA3.out.lt); have HKB4 := hide (HKB3.out.below hb HKB3.out.lt); have HB4 := hide (bthen HB3.out HB3.out.size hb); clear hb hd
            have ka4 := HKA4.out.cell; have kb4 := HKB4.out.cell
            go_wp2_with fail
            refine (c_iSameSession a.fSession b.fSession _ _ _ _ _ _ _ _ _ _ _ (T.rd_below R9.out HB4.out) (T.rd_below R10.out HB4.out) (T.rd_below R11.out HB4.out) (T.rd_below R12.out HB4.out) (T.rd_below R13.out HB4.out) (T.rd_below Q9.out HB4.out) (T.rd_below Q10.out HB4.out) (T.rd_below Q11.out HB4.out) (T.rd_below Q12.out HB4.out) (T.rd_below Q13.out HB4.out)).mono ?_; rintro e w5 ⟨rfl, hd⟩; rw [c4]
            have hb : Below w4.heap.size w4 w5 := by first | exact hd.to_below _ | exact hd
            have HKA5 := hide (HKA4.out.below hb HKA4.out.lt); have HKB5 := hide (HKB4.out.below hb HKB4.out.lt); have HB5 := hide (bthen HB4.out HB4.out.size hb); clear hb hd
            have ka5 := HKA5.out.cell; have kb5 := HKB5.out.cell
            go_wp2
            go_ret
            exact ⟨ret_bool (by rw [HAB.out]; simp [H0.out, H1.out, H2.out, H3.out, H4.out]), HB5.out⟩
        · have c3 : decide (a.fSignal = b.fSignal) = false := by simp [h3]
          have H3 := hide h3; clear h3
          go_enter Tryz.func14, Tryz.ntmps14
          go_wp2_with fail
          refine (c_iSameScore a.fScore b.fScore _ _ _ (T.rd_below R0.out HB0.out) (T.rd_below Q0.out HB0.out)).mono ?_; rintro e w1 ⟨rfl, hd⟩; rw [c0]
          have hb : Below (((w.alloc (.cells #[(.slice va0 vl0 vc0), (.slice va1 vl1 vc1), .int .i64 a.fTuning.fBase.fNum, .int .i64 a.fTuning.fBase.fDen, .int .i64 a.fTuning.fOctave.fNum, .int .i64 a.fTuning.fOctave.fDen, (.slice va6 vl6 vc6), (.slice va7 vl7 vc7), .int .i64 a.fSession.fLength, (.slice va9 vl9 vc9), (.slice va10 vl10 vc10), (.slice va11 vl11 vc11), (.slice va12 vl12 vc12), (.slice va13 vl13 vc13)] 64)).alloc (.cells #[(.slice ua0 ul0 uc0), (.slice ua1 ul1 uc1), .int .i64 b.fTuning.fBase.fNum, .int .i64 b.fTuning.fBase.fDen, .int .i64 b.fTuning.fOctave.fNum, .int .i64 b.fTuning.fOctave.fDen, (.slice ua6 ul6 uc6), (.slice ua7 ul7 uc7), .int .i64 b.fSession.fLength, (.slice ua9 ul9 uc9), (.slice ua10 ul10 uc10), (.slice ua11 ul11 uc11), (.slice ua12 ul12 uc12), (.slice ua13 ul13 uc13)] 64))).heap.size ((w.alloc (.cells #[(.slice va0 vl0 vc0), (.slice va1 vl1 vc1), .int .i64 a.fTuning.fBase.fNum, .int .i64 a.fTuning.fBase.fDen, .int .i64 a.fTuning.fOctave.fNum, .int .i64 a.fTuning.fOctave.fDen, (.slice va6 vl6 vc6), (.slice va7 vl7 vc7), .int .i64 a.fSession.fLength, (.slice va9 vl9 vc9), (.slice va10 vl10 vc10), (.slice va11 vl11 vc11), (.slice va12 vl12 vc12), (.slice va13 vl13 vc13)] 64)).alloc (.cells #[(.slice ua0 ul0 uc0), (.slice ua1 ul1 uc1), .int .i64 b.fTuning.fBase.fNum, .int .i64 b.fTuning.fBase.fDen, .int .i64 b.fTuning.fOctave.fNum, .int .i64 b.fTuning.fOctave.fDen, (.slice ua6 ul6 uc6), (.slice ua7 ul7 uc7), .int .i64 b.fSession.fLength, (.slice ua9 ul9 uc9), (.slice ua10 ul10 uc10), (.slice ua11 ul11 uc11), (.slice ua12 ul12 uc12), (.slice ua13 ul13 uc13)] 64)) w1 := by first | exact hd.to_below _ | exact hd
          have HKA1 := hide (HKA0.out.below hb HKA0.out.lt); have HKB1 := hide (HKB0.out.below hb HKB0.out.lt); have HB1 := hide (bthen HB0.out HB0.out.size hb); clear hb hd
          have ka1 := HKA1.out.cell; have kb1 := HKB1.out.cell
          go_wp2_with fail
          refine (c_iSameTempos a.fTempos b.fTempos _ _ _ (T.rd_below R1.out HB1.out) (T.rd_below Q1.out HB1.out)).mono ?_; rintro e w2 ⟨rfl, hd⟩; rw [c1]
          have hb : Below w1.heap.size w1 w2 := by first | exact hd.to_below _ | exact hd
          have HKA2 := hide (HKA1.out.below hb HKA1.out.lt); have HKB2 := hide (HKB1.out.below hb HKB1.out.lt); have HB2 := hide (bthen HB1.out HB1.out.size hb); clear hb hd
          have ka2 := HKA2.out.cell; have kb2 := HKB2.out.cell
          go_wp2_with fail
          refine (c_iSameTuning a.fTuning b.fTuning _ _ _ (T.rd_below R6.out HB2.out) (T.rd_below Q6.out HB2.out)).mono ?_; rintro e w3 ⟨rfl, hd⟩; rw [c2]
          have hb : Below w2.heap.size w2 w3 := by first | exact hd.to_below _ | exact hd
          have HKA3 := hide (HKA2.out.below hb HKA2.out.lt); have HKB3 := hide (HKB2.out.below hb HKB2.out.lt); have HB3 := hide (bthen HB2.out HB2.out.size hb); clear hb hd
          have ka3 := HKA3.out.cell; have kb3 := HKB3.out.cell
          go_wp2_with fail
          refine (c_same _ _ a.fSignal b.fSignal _ (T.rd_ints.1 (T.rd_below R7.out HB3.out)) (T.rd_ints.1 (T.rd_below Q7.out HB3.out))).mono ?_; rintro e w4 ⟨rfl, hd⟩; rw [c3]
          have hb : Below w3.heap.size w3 w4 := by first | exact hd.to_below _ | exact hd
          have HKA4 := hide (HKA3.out.below hb HKA3.out.lt); have HKB4 := hide (HKB3.out.below hb HKB3.out.lt); have HB4 := hide (bthen HB3.out HB3.out.size hb); clear hb hd
          have ka4 := HKA4.out.cell; have kb4 := HKB4.out.cell
          go_wp2
          go_ret
          exact ⟨ret_bool (by rw [HAB.out]; simp [H0.out, H1.out, H2.out, H3.out]), HB4.out⟩
      · have c2 : decide (a.fTuning = b.fTuning) = false := by simp [h2]
        have H2 := hide h2; clear h2
        go_enter Tryz.func14, Tryz.ntmps14
        go_wp2_with fail
        refine (c_iSameScore a.fScore b.fScore _ _ _ (T.rd_below R0.out HB0.out) (T.rd_below Q0.out HB0.out)).mono ?_; rintro e w1 ⟨rfl, hd⟩; rw [c0]
        have hb : Below (((w.alloc (.cells #[(.slice va0 vl0 vc0), (.slice va1 vl1 vc1), .int .i64 a.fTuning.fBase.fNum, .int .i64 a.fTuning.fBase.fDen, .int .i64 a.fTuning.fOctave.fNum, .int .i64 a.fTuning.fOctave.fDen, (.slice va6 vl6 vc6), (.slice va7 vl7 vc7), .int .i64 a.fSession.fLength, (.slice va9 vl9 vc9), (.slice va10 vl10 vc10), (.slice va11 vl11 vc11), (.slice va12 vl12 vc12), (.slice va13 vl13 vc13)] 64)).alloc (.cells #[(.slice ua0 ul0 uc0), (.slice ua1 ul1 uc1), .int .i64 b.fTuning.fBase.fNum, .int .i64 b.fTuning.fBase.fDen, .int .i64 b.fTuning.fOctave.fNum, .int .i64 b.fTuning.fOctave.fDen, (.slice ua6 ul6 uc6), (.slice ua7 ul7 uc7), .int .i64 b.fSession.fLength, (.slice ua9 ul9 uc9), (.slice ua10 ul10 uc10), (.slice ua11 ul11 uc11), (.slice ua12 ul12 uc12), (.slice ua13 ul13 uc13)] 64))).heap.size ((w.alloc (.cells #[(.slice va0 vl0 vc0), (.slice va1 vl1 vc1), .int .i64 a.fTuning.fBase.fNum, .int .i64 a.fTuning.fBase.fDen, .int .i64 a.fTuning.fOctave.fNum, .int .i64 a.fTuning.fOctave.fDen, (.slice va6 vl6 vc6), (.slice va7 vl7 vc7), .int .i64 a.fSession.fLength, (.slice va9 vl9 vc9), (.slice va10 vl10 vc10), (.slice va11 vl11 vc11), (.slice va12 vl12 vc12), (.slice va13 vl13 vc13)] 64)).alloc (.cells #[(.slice ua0 ul0 uc0), (.slice ua1 ul1 uc1), .int .i64 b.fTuning.fBase.fNum, .int .i64 b.fTuning.fBase.fDen, .int .i64 b.fTuning.fOctave.fNum, .int .i64 b.fTuning.fOctave.fDen, (.slice ua6 ul6 uc6), (.slice ua7 ul7 uc7), .int .i64 b.fSession.fLength, (.slice ua9 ul9 uc9), (.slice ua10 ul10 uc10), (.slice ua11 ul11 uc11), (.slice ua12 ul12 uc12), (.slice ua13 ul13 uc13)] 64)) w1 := by first | exact hd.to_below _ | exact hd
        have HKA1 := hide (HKA0.out.below hb HKA0.out.lt); have HKB1 := hide (HKB0.out.below hb HKB0.out.lt); have HB1 := hide (bthen HB0.out HB0.out.size hb); clear hb hd
        have ka1 := HKA1.out.cell; have kb1 := HKB1.out.cell
        go_wp2_with fail
        refine (c_iSameTempos a.fTempos b.fTempos _ _ _ (T.rd_below R1.out HB1.out) (T.rd_below Q1.out HB1.out)).mono ?_; rintro e w2 ⟨rfl, hd⟩; rw [c1]
        have hb : Below w1.heap.size w1 w2 := by first | exact hd.to_below _ | exact hd
        have HKA2 := hide (HKA1.out.below hb HKA1.out.lt); have HKB2 := hide (HKB1.out.below hb HKB1.out.lt); have HB2 := hide (bthen HB1.out HB1.out.size hb); clear hb hd
        have ka2 := HKA2.out.cell; have kb2 := HKB2.out.cell
        go_wp2_with fail
        refine (c_iSameTuning a.fTuning b.fTuning _ _ _ (T.rd_below R6.out HB2.out) (T.rd_below Q6.out HB2.out)).mono ?_; rintro e w3 ⟨rfl, hd⟩; rw [c2]
        have hb : Below w2.heap.size w2 w3 := by first | exact hd.to_below _ | exact hd
        have HKA3 := hide (HKA2.out.below hb HKA2.out.lt); have HKB3 := hide (HKB2.out.below hb HKB2.out.lt); have HB3 := hide (bthen HB2.out HB2.out.size hb); clear hb hd
        have ka3 := HKA3.out.cell; have kb3 := HKB3.out.cell
        go_wp2
        go_ret
        exact ⟨ret_bool (by rw [HAB.out]; simp [H0.out, H1.out, H2.out]), HB3.out⟩
    · have c1 : decide (a.fTempos = b.fTempos) = false := by simp [h1]
      have H1 := hide h1; clear h1
      go_enter Tryz.func14, Tryz.ntmps14
      go_wp2_with fail
      refine (c_iSameScore a.fScore b.fScore _ _ _ (T.rd_below R0.out HB0.out) (T.rd_below Q0.out HB0.out)).mono ?_; rintro e w1 ⟨rfl, hd⟩; rw [c0]
      have hb : Below (((w.alloc (.cells #[(.slice va0 vl0 vc0), (.slice va1 vl1 vc1), .int .i64 a.fTuning.fBase.fNum, .int .i64 a.fTuning.fBase.fDen, .int .i64 a.fTuning.fOctave.fNum, .int .i64 a.fTuning.fOctave.fDen, (.slice va6 vl6 vc6), (.slice va7 vl7 vc7), .int .i64 a.fSession.fLength, (.slice va9 vl9 vc9), (.slice va10 vl10 vc10), (.slice va11 vl11 vc11), (.slice va12 vl12 vc12), (.slice va13 vl13 vc13)] 64)).alloc (.cells #[(.slice ua0 ul0 uc0), (.slice ua1 ul1 uc1), .int .i64 b.fTuning.fBase.fNum, .int .i64 b.fTuning.fBase.fDen, .int .i64 b.fTuning.fOctave.fNum, .int .i64 b.fTuning.fOctave.fDen, (.slice ua6 ul6 uc6), (.slice ua7 ul7 uc7), .int .i64 b.fSession.fLength, (.slice ua9 ul9 uc9), (.slice ua10 ul10 uc10), (.slice ua11 ul11 uc11), (.slice ua12 ul12 uc12), (.slice ua13 ul13 uc13)] 64))).heap.size ((w.alloc (.cells #[(.slice va0 vl0 vc0), (.slice va1 vl1 vc1), .int .i64 a.fTuning.fBase.fNum, .int .i64 a.fTuning.fBase.fDen, .int .i64 a.fTuning.fOctave.fNum, .int .i64 a.fTuning.fOctave.fDen, (.slice va6 vl6 vc6), (.slice va7 vl7 vc7), .int .i64 a.fSession.fLength, (.slice va9 vl9 vc9), (.slice va10 vl10 vc10), (.slice va11 vl11 vc11), (.slice va12 vl12 vc12), (.slice va13 vl13 vc13)] 64)).alloc (.cells #[(.slice ua0 ul0 uc0), (.slice ua1 ul1 uc1), .int .i64 b.fTuning.fBase.fNum, .int .i64 b.fTuning.fBase.fDen, .int .i64 b.fTuning.fOctave.fNum, .int .i64 b.fTuning.fOctave.fDen, (.slice ua6 ul6 uc6), (.slice ua7 ul7 uc7), .int .i64 b.fSession.fLength, (.slice ua9 ul9 uc9), (.slice ua10 ul10 uc10), (.slice ua11 ul11 uc11), (.slice ua12 ul12 uc12), (.slice ua13 ul13 uc13)] 64)) w1 := by first | exact hd.to_below _ | exact hd
      have HKA1 := hide (HKA0.out.below hb HKA0.out.lt); have HKB1 := hide (HKB0.out.below hb HKB0.out.lt); have HB1 := hide (bthen HB0.out HB0.out.size hb); clear hb hd
      have ka1 := HKA1.out.cell; have kb1 := HKB1.out.cell
      go_wp2_with fail
      refine (c_iSameTempos a.fTempos b.fTempos _ _ _ (T.rd_below R1.out HB1.out) (T.rd_below Q1.out HB1.out)).mono ?_; rintro e w2 ⟨rfl, hd⟩; rw [c1]
      have hb : Below w1.heap.size w1 w2 := by first | exact hd.to_below _ | exact hd
      have HKA2 := hide (HKA1.out.below hb HKA1.out.lt); have HKB2 := hide (HKB1.out.below hb HKB1.out.lt); have HB2 := hide (bthen HB1.out HB1.out.size hb); clear hb hd
      have ka2 := HKA2.out.cell; have kb2 := HKB2.out.cell
      go_wp2
      go_ret
      exact ⟨ret_bool (by rw [HAB.out]; simp [H0.out, H1.out]), HB2.out⟩
  · have c0 : decide (a.fScore = b.fScore) = false := by simp [h0]
    have H0 := hide h0; clear h0
    go_enter Tryz.func14, Tryz.ntmps14
    go_wp2_with fail
    refine (c_iSameScore a.fScore b.fScore _ _ _ (T.rd_below R0.out HB0.out) (T.rd_below Q0.out HB0.out)).mono ?_; rintro e w1 ⟨rfl, hd⟩; rw [c0]
    have hb : Below (((w.alloc (.cells #[(.slice va0 vl0 vc0), (.slice va1 vl1 vc1), .int .i64 a.fTuning.fBase.fNum, .int .i64 a.fTuning.fBase.fDen, .int .i64 a.fTuning.fOctave.fNum, .int .i64 a.fTuning.fOctave.fDen, (.slice va6 vl6 vc6), (.slice va7 vl7 vc7), .int .i64 a.fSession.fLength, (.slice va9 vl9 vc9), (.slice va10 vl10 vc10), (.slice va11 vl11 vc11), (.slice va12 vl12 vc12), (.slice va13 vl13 vc13)] 64)).alloc (.cells #[(.slice ua0 ul0 uc0), (.slice ua1 ul1 uc1), .int .i64 b.fTuning.fBase.fNum, .int .i64 b.fTuning.fBase.fDen, .int .i64 b.fTuning.fOctave.fNum, .int .i64 b.fTuning.fOctave.fDen, (.slice ua6 ul6 uc6), (.slice ua7 ul7 uc7), .int .i64 b.fSession.fLength, (.slice ua9 ul9 uc9), (.slice ua10 ul10 uc10), (.slice ua11 ul11 uc11), (.slice ua12 ul12 uc12), (.slice ua13 ul13 uc13)] 64))).heap.size ((w.alloc (.cells #[(.slice va0 vl0 vc0), (.slice va1 vl1 vc1), .int .i64 a.fTuning.fBase.fNum, .int .i64 a.fTuning.fBase.fDen, .int .i64 a.fTuning.fOctave.fNum, .int .i64 a.fTuning.fOctave.fDen, (.slice va6 vl6 vc6), (.slice va7 vl7 vc7), .int .i64 a.fSession.fLength, (.slice va9 vl9 vc9), (.slice va10 vl10 vc10), (.slice va11 vl11 vc11), (.slice va12 vl12 vc12), (.slice va13 vl13 vc13)] 64)).alloc (.cells #[(.slice ua0 ul0 uc0), (.slice ua1 ul1 uc1), .int .i64 b.fTuning.fBase.fNum, .int .i64 b.fTuning.fBase.fDen, .int .i64 b.fTuning.fOctave.fNum, .int .i64 b.fTuning.fOctave.fDen, (.slice ua6 ul6 uc6), (.slice ua7 ul7 uc7), .int .i64 b.fSession.fLength, (.slice ua9 ul9 uc9), (.slice ua10 ul10 uc10), (.slice ua11 ul11 uc11), (.slice ua12 ul12 uc12), (.slice ua13 ul13 uc13)] 64)) w1 := by first | exact hd.to_below _ | exact hd
    have HKA1 := hide (HKA0.out.below hb HKA0.out.lt); have HKB1 := hide (HKB0.out.below hb HKB0.out.lt); have HB1 := hide (bthen HB0.out HB0.out.size hb); clear hb hd
    have ka1 := HKA1.out.cell; have kb1 := HKB1.out.cell
    go_wp2
    go_ret
    exact ⟨ret_bool (by rw [HAB.out]; simp [H0.out]), HB1.out⟩
end Go.Proofs.YtfifcnojkjjnkaaGreat
