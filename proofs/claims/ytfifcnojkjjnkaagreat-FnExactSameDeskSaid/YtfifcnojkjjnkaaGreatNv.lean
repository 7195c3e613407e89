/- Contracts: which nested data are the same, by the reference. -/
import Derived.Test.YtfifcnojkjjnkaaGreatNt
namespace Go.Proofs.YtfifcnojkjjnkaaGreat
open Go.RowKit
set_option maxHeartbeats 2000000 in
set_option maxRecDepth 20000 in
theorem c_l07SameNode (a b : GNode) (b1 o1 b2 o2 : Nat) (v3 u3 : Value) (w : World) (hb1 : b1 < w.heap.size) (hb2 : b2 < w.heap.size)
    (d0 : w.cell? ⟨b1, o1, none⟩ = some (.int .i64 a.fKind)) (d1 : w.cell? ⟨b1, o1 + 1, none⟩ = some (.int .i64 a.fA)) (d2 : w.cell? ⟨b1, o1 + 2, none⟩ = some (.int .i64 a.fB)) (d3 : w.cell? ⟨b1, o1 + 3, none⟩ = some v3)
    (g0 : w.cell? ⟨b2, o2, none⟩ = some (.int .i64 b.fKind)) (g1 : w.cell? ⟨b2, o2 + 1, none⟩ = some (.int .i64 b.fA)) (g2 : w.cell? ⟨b2, o2 + 2, none⟩ = some (.int .i64 b.fB)) (g3 : w.cell? ⟨b2, o2 + 3, none⟩ = some u3)
    (r3 : T.rd w (T.ints 2 a.fFrom) [v3]) (t3 : T.rd w (T.ints 2 b.fFrom) [u3]) :
    Calls Tryz.prog 171 #[.pointer (some ⟨b1, o1, none⟩), .pointer (some ⟨b2, o2, none⟩)] w fun e w' => e = .returned (.bool (decide (a = b))) ∧ Dr w w' := by
  have hab : decide (a = b) = (decide (a.fKind = b.fKind) && (decide (a.fA = b.fA) && (decide (a.fB = b.fB) && decide (a.fFrom = b.fFrom)))) := by
    obtain ⟨x0, x1, x2, x3⟩ := a
    obtain ⟨y0, y1, y2, y3⟩ := b
    rw [Bool.eq_iff_iff]
    simp only [GNode.mk.injEq, decide_eq_true_eq, Bool.and_eq_true]
  have HAB := hide hab; clear hab
  have R3 := hide (T.rd_ints.1 r3); have Q3 := hide (T.rd_ints.1 t3); clear r3 t3
  by_cases h0 : a.fKind = b.fKind
  · have e0 : (a.fKind == b.fKind) = true := by simp [h0]
    have H0 := hide h0; clear h0
    by_cases h1 : a.fA = b.fA
    · have e1 : (a.fA == b.fA) = true := by simp [h1]
      have H1 := hide h1; clear h1
      by_cases h2 : a.fB = b.fB
      · have e2 : (a.fB == b.fB) = true := by simp [h2]
        have H2 := hide h2; clear h2
        go_enter Tryz.func171, Tryz.ntmps171
        go_wp2
        go_quiet ((go_at_call 56; exact Calls.quiet_of ((c_l00Same _ _ a.fFrom b.fFrom _ (Rd.drewN R3.out _) (Rd.drewN Q3.out _)).mono (fun e w' h => h))))
        go_wp2
        go_ret
        exact ⟨ret_bool (by rw [HAB.out]; simp [H0.out, H1.out, H2.out]), (by repeat (first | exact Dr.refl _ | exact ⟨_, rfl⟩ | refine Dr.drewN ?_ _ | refine Dr.drew ?_))⟩
      · have e2 : (a.fB == b.fB) = false := by simp [h2]
        have H2 := hide h2; clear h2
        go_enter Tryz.func171, Tryz.ntmps171
        go_wp2
        go_quiet (fail)
        go_wp2
        go_ret
        exact ⟨ret_bool (by rw [HAB.out]; simp [H0.out, H1.out, H2.out]), (by repeat (first | exact Dr.refl _ | exact ⟨_, rfl⟩ | refine Dr.drewN ?_ _ | refine Dr.drew ?_))⟩
    · have e1 : (a.fA == b.fA) = false := by simp [h1]
      have H1 := hide h1; clear h1
      go_enter Tryz.func171, Tryz.ntmps171
      go_wp2
      go_quiet (fail)
      go_wp2
      go_ret
      exact ⟨ret_bool (by rw [HAB.out]; simp [H0.out, H1.out]), (by repeat (first | exact Dr.refl _ | exact ⟨_, rfl⟩ | refine Dr.drewN ?_ _ | refine Dr.drew ?_))⟩
  · have e0 : (a.fKind == b.fKind) = false := by simp [h0]
    have H0 := hide h0; clear h0
    go_enter Tryz.func171, Tryz.ntmps171
    go_wp2
    go_quiet (fail)
    go_wp2
    go_ret
    exact ⟨ret_bool (by rw [HAB.out]; simp [H0.out]), (by repeat (first | exact Dr.refl _ | exact ⟨_, rfl⟩ | refine Dr.drewN ?_ _ | refine Dr.drew ?_))⟩
set_option maxHeartbeats 2000000 in
set_option maxRecDepth 20000 in
theorem c_sSamePatch (a b : GPatch) (v1 : Value) (v2 : Value) (v3 : Value) (u1 : Value) (u2 : Value) (u3 : Value) (w : World) (r1 : T.rd w (T.sl 33 1 (a.fTables.map (T.ints 2))) [v1]) (r2 : T.rd w (T.sl 228 4 (a.fNodes.map GNode.t)) [v2]) (r3 : T.rd w (T.ints 2 a.fOutputs) [v3]) (t1 : T.rd w (T.sl 33 1 (b.fTables.map (T.ints 2))) [u1]) (t2 : T.rd w (T.sl 228 4 (b.fNodes.map GNode.t)) [u2]) (t3 : T.rd w (T.ints 2 b.fOutputs) [u3]) :
    Calls Tryz.prog 91 #[.agg #[.int .i64 a.fInputs, v1, v2, v3], .agg #[.int .i64 b.fInputs, u1, u2, u3]] w fun e w' => e = .returned (.bool (decide (a = b))) ∧ Below w.heap.size w w' := by
  have hab : decide (a = b) = (decide (a.fInputs = b.fInputs) && (decide (a.fTables = b.fTables) && (decide (a.fNodes = b.fNodes) && (decide (a.fOutputs = b.fOutputs))))) := by
    obtain ⟨x0, x1, x2, x3⟩ := a
    obtain ⟨y0, y1, y2, y3⟩ := b
    rw [Bool.eq_iff_iff]
    simp only [GPatch.mk.injEq, decide_eq_true_eq, Bool.and_eq_true]
    try (constructor <;> (intro h; simp [h]))
  have R1 := hide r1; have Q1 := hide t1
  have R2 := hide r2; have Q2 := hide t2
  have R3 := hide r3; have Q3 := hide t3
  obtain ⟨va1, vc1, rfl, hla1, hca1, hxa1⟩ := T.rd_open r1
  obtain ⟨ua1, uc1, rfl, hlb1, hcb1, hxb1⟩ := T.rd_open t1
  rw [List.length_map] at hla1 hlb1 R1 Q1 ⊢
  rw [List.length_map]
  have HXA1 := hide hxa1; have HXB1 := hide hxb1; clear hxa1 hxb1
  obtain ⟨va2, vc2, rfl, hla2, hca2, hxa2⟩ := T.rd_open r2
  obtain ⟨ua2, uc2, rfl, hlb2, hcb2, hxb2⟩ := T.rd_open t2
  rw [List.length_map] at hla2 hlb2 R2 Q2 ⊢
  rw [List.length_map]
  have HXA2 := hide hxa2; have HXB2 := hide hxb2; clear hxa2 hxb2
  obtain ⟨va3, vl3, vc3, rfl⟩ := T.rd_slice r3
  obtain ⟨ua3, ul3, uc3, rfl⟩ := T.rd_slice t3
  clear r1 t1 r2 t2 r3 t3
  have HAB := hide hab; clear hab
  have HB0 := hide (show Below w.heap.size w ((w.alloc (.cells #[.int .i64 a.fInputs, (.slice va1 a.fTables.length vc1), (.slice va2 a.fNodes.length vc2), (.slice va3 vl3 vc3)] 157)).alloc (.cells #[.int .i64 b.fInputs, (.slice ua1 b.fTables.length uc1), (.slice ua2 b.fNodes.length uc2), (.slice ua3 ul3 uc3)] 157)) from ((Below.refl _ _).alloc (Nat.le_refl _) _).alloc (by first | (simp; done) | (simp; omega) | omega) _)
  have HKA0 := hide ((Bk.born w 157 #[.int .i64 a.fInputs, (.slice va1 a.fTables.length vc1), (.slice va2 a.fNodes.length vc2), (.slice va3 vl3 vc3)]).alloc (.cells #[.int .i64 b.fInputs, (.slice ua1 b.fTables.length uc1), (.slice ua2 b.fNodes.length uc2), (.slice ua3 ul3 uc3)] 157))
  have HKB0 := hide (Bk.born1' w (.cells #[.int .i64 a.fInputs, (.slice va1 a.fTables.length vc1), (.slice va2 a.fNodes.length vc2), (.slice va3 vl3 vc3)] 157) 157 #[.int .i64 b.fInputs, (.slice ua1 b.fTables.length uc1), (.slice ua2 b.fNodes.length uc2), (.slice ua3 ul3 uc3)])
  by_cases h0 : a.fInputs = b.fInputs
  · have e0 : (a.fInputs != b.fInputs) = false := by simp [h0]
    have H0 := hide h0; clear h0
    by_cases h1 : a.fTables.length = b.fTables.length
    · have e1 : ((a.fTables.length : Int) != (b.fTables.length : Int)) = false := by simp; omega
      have HL1 := hide h1; clear h1
      by_cases h2 : a.fNodes.length = b.fNodes.length
      · have e2 : ((a.fNodes.length : Int) != (b.fNodes.length : Int)) = false := by simp; omega
        have HL2 := hide h2; clear h2
        by_cases h3 : a.fOutputs = b.fOutputs
        · have c3 : decide (a.fOutputs = b.fOutputs) = true := by simp [h3]
          have H3 := hide h3; clear h3
          go_enter Tryz.func91, Tryz.ntmps91
          go_wp2_with fail
          refine (c_l00Same _ _ a.fOutputs b.fOutputs _ (T.rd_ints.1 (T.rd_below R3.out HB0.out)) (T.rd_ints.1 (T.rd_below Q3.out HB0.out))).mono ?_; rintro e w1 ⟨rfl, hd⟩; rw [c3]
          have hb : Below ((w.alloc (.cells #[.int .i64 a.fInputs, (.slice va1 a.fTables.length vc1), (.slice va2 a.fNodes.length vc2), (.slice va3 vl3 vc3)] 157)).alloc (.cells #[.int .i64 b.fInputs, (.slice ua1 b.fTables.length uc1), (.slice ua2 b.fNodes.length uc2), (.slice ua3 ul3 uc3)] 157)).heap.size ((w.alloc (.cells #[.int .i64 a.fInputs, (.slice va1 a.fTables.length vc1), (.slice va2 a.fNodes.length vc2), (.slice va3 vl3 vc3)] 157)).alloc (.cells #[.int .i64 b.fInputs, (.slice ua1 b.fTables.length uc1), (.slice ua2 b.fNodes.length uc2), (.slice ua3 ul3 uc3)] 157)) w1 := by first | exact hd.to_below _ | exact hd
          have HKA1 := hide (HKA0.out.below hb HKA0.out.lt); have HKB1 := hide (HKB0.out.below hb HKB0.out.lt); have HB1 := hide (bthen HB0.out HB0.out.size hb); clear hb hd
          have ka1 := HKA1.out.cell; have kb1 := HKB1.out.cell
          go_wp2
          go_loopw [5] (fun i wr => ∃ k : Nat, k ≤ a.fTables.length ∧ i = .int .i64 k ∧ a.fTables.take k = b.fTables.take k ∧ Below w1.heap.size w1 wr) (fun i _ => a.fTables.length - (intOf i).toNat)
          case atStart => exact ⟨0, Nat.zero_le _, rfl, rfl, Below.refl _ _⟩
          case round =>
            obtain ⟨k, hk, rfl, hs, hbw⟩ := hrel
            have HS := hide hs; have HW := hide hbw; clear hs hbw
            have HB := hide (bthen HB1.out HB1.out.size HW.out)
            have HKA := hide (HKA1.out.below HW.out HKA1.out.lt); have HKB := hide (HKB1.out.below HW.out HKB1.out.lt)
            have ka := HKA.out.cell; have kb := HKB.out.cell
            have la : w.heap.size < wr.heap.size := HKA.out.lt
            have lb : w.heap.size + 1 < wr.heap.size := HKB.out.lt
            by_cases hlt : k < a.fTables.length
            · have hlt2 : k < b.fTables.length := by have := HL1.out; omega
              obtain ⟨b1, o1, cs1, hA1, hbw1, hcs1, hcell1⟩ := HXA1.out k (T.ints 2 a.fTables[k]) (by rw [List.getElem?_map, List.getElem?_eq_getElem hlt]; rfl)
              obtain ⟨b2, o2, cs2, hA2, hbw2, hcs2, hcell2⟩ := HXB1.out k (T.ints 2 b.fTables[k]) (by rw [List.getElem?_map, List.getElem?_eq_getElem hlt2]; rfl)
              subst hA1 hA2
              have hg1 := List.getElem?_eq_getElem hlt
              have hg2 := List.getElem?_eq_getElem hlt2
              generalize a.fTables[k] = x at *
              generalize b.fTables[k] = y at *
              have HG1 := hide hg1; have HG2 := hide hg2; clear hg1 hg2
              obtain ⟨v1, rfl⟩ := T.rd_one hcs1
              have d1 := (HB.out.cell hbw1).trans (hcell1 0 v1 rfl)
              rw [Nat.mul_one, Nat.add_zero] at d1
              have R1 := hide (T.rd_ints.1 (T.rd_below hcs1 HB.out))
              obtain ⟨v2, rfl⟩ := T.rd_one hcs2
              have d2 := (HB.out.cell hbw2).trans (hcell2 0 v2 rfl)
              rw [Nat.mul_one, Nat.add_zero] at d2
              have R2 := hide (T.rd_ints.1 (T.rd_below hcs2 HB.out))
              clear hcs1 hcs2 hcell1 hcell2
              have hW := HW.out
              have hB := HB.out
              by_cases he : x = y
              · have hde : decide (x = y) = true := decide_eq_true he
                have HE := hide he; clear he
                go_wp2
                go_quiet ((go_at_call 56; exact Calls.quiet_of ((c_l00Same _ _ x y _ (Rd.drewN R1.out _) (Rd.drewN R2.out _)).mono (fun e w' h => by rw [hde] at h; exact h))))
                go_wp2
                go_roundw
                case rel => exact ⟨k + 1, by omega, by go_num, takes_succ HS.out HG1.out (by rw [HE.out]; exact HG2.out), (by repeat (first | with_reducible exact Below.refl _ _ | with_reducible assumption | with_reducible refine Below.setCell ?_ (by first | omega | (simp; done) | (simp; omega)) _ | with_reducible refine Below.alloc ?_ (by first | omega | (simp; done) | (simp; omega)) _ | with_reducible refine Below.drew ?_ | with_reducible refine below_drewN ?_ _ | exact Below.refl _ _ | assumption | refine Below.drew ?_ | refine below_drewN ?_ _ | refine Below.alloc ?_ (by first | omega | (simp; done) | (simp; omega)) _ | refine Below.setCell ?_ (by first | omega | (simp; done) | (simp; omega)) _))⟩
                case measure => simp [intOf]; omega
              · have hde : decide (x = y) = false := decide_eq_false he
                have HE := hide he; clear he
                go_wp2
                go_quiet ((go_at_call 56; exact Calls.quiet_of ((c_l00Same _ _ x y _ (Rd.drewN R1.out _) (Rd.drewN R2.out _)).mono (fun e w' h => by rw [hde] at h; exact h))))
                go_wp2
                go_ret
                have hne := ne_at HG1.out HG2.out HE.out
                exact ⟨ret_bool (by rw [HAB.out]; simp [H0.out, H3.out, hne]), (by repeat (first | with_reducible exact Below.refl _ _ | with_reducible assumption | with_reducible refine Below.setCell ?_ (by first | omega | (simp; done) | (simp; omega)) _ | with_reducible refine Below.alloc ?_ (by first | omega | (simp; done) | (simp; omega)) _ | with_reducible refine Below.drew ?_ | with_reducible refine below_drewN ?_ _ | exact Below.refl _ _ | assumption | refine Below.drew ?_ | refine below_drewN ?_ _ | refine Below.alloc ?_ (by first | omega | (simp; done) | (simp; omega)) _ | refine Below.setCell ?_ (by first | omega | (simp; done) | (simp; omega)) _))⟩
            · have hall := eq_of_takes (k := k) (by omega) HL1.out HS.out
              have HALL1 := hide hall; clear hall
              have HKAz1 := HKA; have HKBz1 := HKB; have HBz1 := HB
              generalize wr = wz1 at *
              go_wp2
              go_loopw [6] (fun i wr => ∃ k : Nat, k ≤ a.fNodes.length ∧ i = .int .i64 k ∧ a.fNodes.take k = b.fNodes.take k ∧ Below wz1.heap.size wz1 wr) (fun i _ => a.fNodes.length - (intOf i).toNat)
              case atStart => exact ⟨0, Nat.zero_le _, rfl, rfl, Below.refl _ _⟩
              case round =>
                obtain ⟨k, hk, rfl, hs, hbw⟩ := hrel
                have HS := hide hs; have HW := hide hbw; clear hs hbw
                have HB := hide (bthen HBz1.out HBz1.out.size HW.out)
                have HKA := hide (HKAz1.out.below HW.out HKAz1.out.lt); have HKB := hide (HKBz1.out.below HW.out HKBz1.out.lt)
                have ka := HKA.out.cell; have kb := HKB.out.cell
                have la : w.heap.size < wr.heap.size := HKA.out.lt
                have lb : w.heap.size + 1 < wr.heap.size := HKB.out.lt
                by_cases hlt : k < a.fNodes.length
                · have hlt2 : k < b.fNodes.length := by have := HL2.out; omega
                  obtain ⟨b1, o1, cs1, hA1, hbw1, hcs1, hcell1⟩ := HXA2.out k (GNode.t a.fNodes[k]) (by rw [List.getElem?_map, List.getElem?_eq_getElem hlt]; rfl)
                  obtain ⟨b2, o2, cs2, hA2, hbw2, hcs2, hcell2⟩ := HXB2.out k (GNode.t b.fNodes[k]) (by rw [List.getElem?_map, List.getElem?_eq_getElem hlt2]; rfl)
                  subst hA1 hA2
                  have hg1 := List.getElem?_eq_getElem hlt
                  have hg2 := List.getElem?_eq_getElem hlt2
                  generalize a.fNodes[k] = x at *
                  generalize b.fNodes[k] = y at *
                  have HG1 := hide hg1; have HG2 := hide hg2; clear hg1 hg2
                  obtain ⟨p3, rfl, hR13⟩ := GNode.rd_open (show T.rds _ _ _ by simpa only [GNode.t, T.rd] using hcs1)
                  have d10 := (HB.out.cell hbw1).trans (hcell1 0 (.int .i64 x.fKind) rfl)
                  have d11 := (HB.out.cell hbw1).trans (hcell1 1 (.int .i64 x.fA) rfl)
                  have d12 := (HB.out.cell hbw1).trans (hcell1 2 (.int .i64 x.fB) rfl)
                  have d13 := (HB.out.cell hbw1).trans (hcell1 3 (p3) rfl)
                  rw [show o1 + (k * 4 + 0) = o1 + k * 4 by omega] at d10
                  rw [show o1 + (k * 4 + 1) = o1 + k * 4 + 1 by omega] at d11
                  rw [show o1 + (k * 4 + 2) = o1 + k * 4 + 2 by omega] at d12
                  rw [show o1 + (k * 4 + 3) = o1 + k * 4 + 3 by omega] at d13
                  have R13 := hide (T.rd_below hR13 HB.out); clear hR13
                  clear hcs1 hcell1
                  have hq1 : b1 < wr.heap.size := Nat.lt_of_lt_of_le hbw1 HB.out.size
                  obtain ⟨pa3, pl3, pc3, rfl⟩ := T.rd_slice R13.out
                  obtain ⟨q3, rfl, hR23⟩ := GNode.rd_open (show T.rds _ _ _ by simpa only [GNode.t, T.rd] using hcs2)
                  have d20 := (HB.out.cell hbw2).trans (hcell2 0 (.int .i64 y.fKind) rfl)
                  have d21 := (HB.out.cell hbw2).trans (hcell2 1 (.int .i64 y.fA) rfl)
                  have d22 := (HB.out.cell hbw2).trans (hcell2 2 (.int .i64 y.fB) rfl)
                  have d23 := (HB.out.cell hbw2).trans (hcell2 3 (q3) rfl)
                  rw [show o2 + (k * 4 + 0) = o2 + k * 4 by omega] at d20
                  rw [show o2 + (k * 4 + 1) = o2 + k * 4 + 1 by omega] at d21
                  rw [show o2 + (k * 4 + 2) = o2 + k * 4 + 2 by omega] at d22
                  rw [show o2 + (k * 4 + 3) = o2 + k * 4 + 3 by omega] at d23
                  have R23 := hide (T.rd_below hR23 HB.out); clear hR23
                  clear hcs2 hcell2
                  have hq2 : b2 < wr.heap.size := Nat.lt_of_lt_of_le hbw2 HB.out.size
                  obtain ⟨qa3, ql3, qc3, rfl⟩ := T.rd_slice R23.out
                  have hW := HW.out
                  have hB := HB.out
                  by_cases he : x = y
                  · have hde : decide (x = y) = true := decide_eq_true he
                    have HE := hide he; clear he
                    go_wp2
                    go_quiet ((go_at_call 171; exact Calls.quiet_of ((c_l07SameNode x y b1 (o1 + k * 4) b2 (o2 + k * 4) _ _ _ (by exact hq1) (by exact hq2) (by exact d10) (by exact d11) (by exact d12) (by exact d13) (by exact d20) (by exact d21) (by exact d22) (by exact d23) (T.rd_below R13.out (by repeat (first | with_reducible exact Below.refl _ _ | with_reducible refine Below.alloc ?_ (Nat.le_refl _) _ | with_reducible refine Below.drew ?_ | with_reducible refine below_drewN ?_ _))) (T.rd_below R23.out (by repeat (first | with_reducible exact Below.refl _ _ | with_reducible refine Below.alloc ?_ (Nat.le_refl _) _ | with_reducible refine Below.drew ?_ | with_reducible refine below_drewN ?_ _)))).mono (fun e w' h => by rw [hde] at h; exact h))))
                    go_wp2
                    go_roundw
                    case rel => exact ⟨k + 1, by omega, by go_num, takes_succ HS.out HG1.out (by rw [HE.out]; exact HG2.out), (by repeat (first | with_reducible exact Below.refl _ _ | with_reducible assumption | with_reducible refine Below.setCell ?_ (by first | omega | (simp; done) | (simp; omega)) _ | with_reducible refine Below.alloc ?_ (by first | omega | (simp; done) | (simp; omega)) _ | with_reducible refine Below.drew ?_ | with_reducible refine below_drewN ?_ _ | exact Below.refl _ _ | assumption | refine Below.drew ?_ | refine below_drewN ?_ _ | refine Below.alloc ?_ (by first | omega | (simp; done) | (simp; omega)) _ | refine Below.setCell ?_ (by first | omega | (simp; done) | (simp; omega)) _))⟩
                    case measure => simp [intOf]; omega
                  · have hde : decide (x = y) = false := decide_eq_false he
                    have HE := hide he; clear he
                    go_wp2
                    go_quiet ((go_at_call 171; exact Calls.quiet_of ((c_l07SameNode x y b1 (o1 + k * 4) b2 (o2 + k * 4) _ _ _ (by exact hq1) (by exact hq2) (by exact d10) (by exact d11) (by exact d12) (by exact d13) (by exact d20) (by exact d21) (by exact d22) (by exact d23) (T.rd_below R13.out (by repeat (first | with_reducible exact Below.refl _ _ | with_reducible refine Below.alloc ?_ (Nat.le_refl _) _ | with_reducible refine Below.drew ?_ | with_reducible refine below_drewN ?_ _))) (T.rd_below R23.out (by repeat (first | with_reducible exact Below.refl _ _ | with_reducible refine Below.alloc ?_ (Nat.le_refl _) _ | with_reducible refine Below.drew ?_ | with_reducible refine below_drewN ?_ _)))).mono (fun e w' h => by rw [hde] at h; exact h))))
                    go_wp2
                    go_ret
                    have hne := ne_at HG1.out HG2.out HE.out
                    exact ⟨ret_bool (by rw [HAB.out]; simp [H0.out, H3.out, HALL1.out, hne]), (by repeat (first | with_reducible exact Below.refl _ _ | with_reducible assumption | with_reducible refine Below.setCell ?_ (by first | omega | (simp; done) | (simp; omega)) _ | with_reducible refine Below.alloc ?_ (by first | omega | (simp; done) | (simp; omega)) _ | with_reducible refine Below.drew ?_ | with_reducible refine below_drewN ?_ _ | exact Below.refl _ _ | assumption | refine Below.drew ?_ | refine below_drewN ?_ _ | refine Below.alloc ?_ (by first | omega | (simp; done) | (simp; omega)) _ | refine Below.setCell ?_ (by first | omega | (simp; done) | (simp; omega)) _))⟩
                · have hall := eq_of_takes (k := k) (by omega) HL2.out HS.out
                  have HALL2 := hide hall; clear hall
                  go_wp2
                  go_ret
                  exact ⟨ret_bool (by rw [HAB.out]; simp [H0.out, H3.out, HALL1.out, HALL2.out]), HB.out⟩
        · have c3 : decide (a.fOutputs = b.fOutputs) = false := by simp [h3]
          have H3 := hide h3; clear h3
          go_enter Tryz.func91, Tryz.ntmps91
          go_wp2_with fail
          refine (c_l00Same _ _ a.fOutputs b.fOutputs _ (T.rd_ints.1 (T.rd_below R3.out HB0.out)) (T.rd_ints.1 (T.rd_below Q3.out HB0.out))).mono ?_; rintro e w1 ⟨rfl, hd⟩; rw [c3]
          have hb : Below ((w.alloc (.cells #[.int .i64 a.fInputs, (.slice va1 a.fTables.length vc1), (.slice va2 a.fNodes.length vc2), (.slice va3 vl3 vc3)] 157)).alloc (.cells #[.int .i64 b.fInputs, (.slice ua1 b.fTables.length uc1), (.slice ua2 b.fNodes.length uc2), (.slice ua3 ul3 uc3)] 157)).heap.size ((w.alloc (.cells #[.int .i64 a.fInputs, (.slice va1 a.fTables.length vc1), (.slice va2 a.fNodes.length vc2), (.slice va3 vl3 vc3)] 157)).alloc (.cells #[.int .i64 b.fInputs, (.slice ua1 b.fTables.length uc1), (.slice ua2 b.fNodes.length uc2), (.slice ua3 ul3 uc3)] 157)) w1 := by first | exact hd.to_below _ | exact hd
          have HKA1 := hide (HKA0.out.below hb HKA0.out.lt); have HKB1 := hide (HKB0.out.below hb HKB0.out.lt); have HB1 := hide (bthen HB0.out HB0.out.size hb); clear hb hd
          have ka1 := HKA1.out.cell; have kb1 := HKB1.out.cell
          go_wp2
          go_ret
          exact ⟨ret_bool (by rw [HAB.out]; simp [H0.out, H3.out]), HB1.out⟩
      · have e2 : ((a.fNodes.length : Int) != (b.fNodes.length : Int)) = true := by simp; omega
        have H2 := hide (show ¬ a.fNodes = b.fNodes from fun e => h2 (by rw [e])); clear h2
        go_enter Tryz.func91, Tryz.ntmps91
        go_wp2
        go_ret
        exact ⟨ret_bool (by rw [HAB.out]; simp [H0.out, H2.out]), HB0.out⟩
    · have e1 : ((a.fTables.length : Int) != (b.fTables.length : Int)) = true := by simp; omega
      have H1 := hide (show ¬ a.fTables = b.fTables from fun e => h1 (by rw [e])); clear h1
      go_enter Tryz.func91, Tryz.ntmps91
      go_wp2
      go_ret
      exact ⟨ret_bool (by rw [HAB.out]; simp [H0.out, H1.out]), HB0.out⟩
  · have e0 : (a.fInputs != b.fInputs) = true := by simp [h0]
    have H0 := hide h0; clear h0
    go_enter Tryz.func91, Tryz.ntmps91
    go_wp2
    go_ret
    exact ⟨ret_bool (by rw [HAB.out]; simp [H0.out]), HB0.out⟩
set_option maxHeartbeats 2000000 in
set_option maxRecDepth 20000 in
theorem c_sSameTuning (a b : GTuning) (v4 : Value) (u4 : Value) (w : World) (r4 : T.rd w (T.sl 52 2 (a.fRatios.map GFrac.t)) [v4]) (t4 : T.rd w (T.sl 52 2 (b.fRatios.map GFrac.t)) [u4]) :
    Calls Tryz.prog 55 #[.agg #[.int .i64 a.fBase.fNum, .int .i64 a.fBase.fDen, .int .i64 a.fOctave.fNum, .int .i64 a.fOctave.fDen, v4], .agg #[.int .i64 b.fBase.fNum, .int .i64 b.fBase.fDen, .int .i64 b.fOctave.fNum, .int .i64 b.fOctave.fDen, u4]] w fun e w' => e = .returned (.bool (decide (a = b))) ∧ Below w.heap.size w w' := by
  have hab : decide (a = b) = (decide (a.fBase = b.fBase) && (decide (a.fOctave = b.fOctave) && (decide (a.fRatios = b.fRatios)))) := by
    obtain ⟨x0, x1, x2⟩ := a
    obtain ⟨y0, y1, y2⟩ := b
    rw [Bool.eq_iff_iff]
    simp only [GTuning.mk.injEq, decide_eq_true_eq, Bool.and_eq_true]
    try (constructor <;> (intro h; simp [h]))
  have R4 := hide r4; have Q4 := hide t4
  obtain ⟨va4, vc4, rfl, hla4, hca4, hxa4⟩ := T.rd_open r4
  obtain ⟨ua4, uc4, rfl, hlb4, hcb4, hxb4⟩ := T.rd_open t4
  rw [List.length_map] at hla4 hlb4 R4 Q4 ⊢
  rw [List.length_map]
  have HXA4 := hide hxa4; have HXB4 := hide hxb4; clear hxa4 hxb4
  clear r4 t4
  have HAB := hide hab; clear hab
  have HB0 := hide (show Below w.heap.size w ((w.alloc (.cells #[.int .i64 a.fBase.fNum, .int .i64 a.fBase.fDen, .int .i64 a.fOctave.fNum, .int .i64 a.fOctave.fDen, (.slice va4 a.fRatios.length vc4)] 55)).alloc (.cells #[.int .i64 b.fBase.fNum, .int .i64 b.fBase.fDen, .int .i64 b.fOctave.fNum, .int .i64 b.fOctave.fDen, (.slice ua4 b.fRatios.length uc4)] 55)) from ((Below.refl _ _).alloc (Nat.le_refl _) _).alloc (by first | (simp; done) | (simp; omega) | omega) _)
  have HKA0 := hide ((Bk.born w 55 #[.int .i64 a.fBase.fNum, .int .i64 a.fBase.fDen, .int .i64 a.fOctave.fNum, .int .i64 a.fOctave.fDen, (.slice va4 a.fRatios.length vc4)]).alloc (.cells #[.int .i64 b.fBase.fNum, .int .i64 b.fBase.fDen, .int .i64 b.fOctave.fNum, .int .i64 b.fOctave.fDen, (.slice ua4 b.fRatios.length uc4)] 55))
  have HKB0 := hide (Bk.born1' w (.cells #[.int .i64 a.fBase.fNum, .int .i64 a.fBase.fDen, .int .i64 a.fOctave.fNum, .int .i64 a.fOctave.fDen, (.slice va4 a.fRatios.length vc4)] 55) 55 #[.int .i64 b.fBase.fNum, .int .i64 b.fBase.fDen, .int .i64 b.fOctave.fNum, .int .i64 b.fOctave.fDen, (.slice ua4 b.fRatios.length uc4)])
  by_cases h0 : a.fBase = b.fBase
  · have e0 : ∀ w, (Op.equalIn 10000 52 (.agg #[.int .i64 a.fBase.fNum, .int .i64 a.fBase.fDen]) (.agg #[.int .i64 b.fBase.fNum, .int .i64 b.fBase.fDen])).run Tryz.prog w = .ok true w := by have := eq_Frac 9998 a.fBase b.fBase; rwa [show decide (a.fBase = b.fBase) = true by simp [h0]] at this
    have hgf0 := eqg_Frac
    have H0 := hide h0; clear h0
    by_cases h1 : a.fOctave = b.fOctave
    · have e1 : ∀ w, (Op.equalIn 10000 52 (.agg #[.int .i64 a.fOctave.fNum, .int .i64 a.fOctave.fDen]) (.agg #[.int .i64 b.fOctave.fNum, .int .i64 b.fOctave.fDen])).run Tryz.prog w = .ok true w := by have := eq_Frac 9998 a.fOctave b.fOctave; rwa [show decide (a.fOctave = b.fOctave) = true by simp [h1]] at this
      have hgf1 := eqg_Frac
      have H1 := hide h1; clear h1
      by_cases h2 : a.fRatios.length = b.fRatios.length
      · have e2 : ((a.fRatios.length : Int) != (b.fRatios.length : Int)) = false := by simp; omega
        have HL4 := hide h2; clear h2
        go_enter Tryz.func55, Tryz.ntmps55
        go_wp2
        go_loopw [5] (fun i wr => ∃ k : Nat, k ≤ a.fRatios.length ∧ i = .int .i64 k ∧ a.fRatios.take k = b.fRatios.take k ∧ Below ((w.alloc (.cells #[.int .i64 a.fBase.fNum, .int .i64 a.fBase.fDen, .int .i64 a.fOctave.fNum, .int .i64 a.fOctave.fDen, (.slice va4 a.fRatios.length vc4)] 55)).alloc (.cells #[.int .i64 b.fBase.fNum, .int .i64 b.fBase.fDen, .int .i64 b.fOctave.fNum, .int .i64 b.fOctave.fDen, (.slice ua4 b.fRatios.length uc4)] 55)).heap.size ((w.alloc (.cells #[.int .i64 a.fBase.fNum, .int .i64 a.fBase.fDen, .int .i64 a.fOctave.fNum, .int .i64 a.fOctave.fDen, (.slice va4 a.fRatios.length vc4)] 55)).alloc (.cells #[.int .i64 b.fBase.fNum, .int .i64 b.fBase.fDen, .int .i64 b.fOctave.fNum, .int .i64 b.fOctave.fDen, (.slice ua4 b.fRatios.length uc4)] 55)) wr) (fun i _ => a.fRatios.length - (intOf i).toNat)
        case atStart => exact ⟨0, Nat.zero_le _, rfl, rfl, Below.refl _ _⟩
        case round =>
          obtain ⟨k, hk, rfl, hs, hbw⟩ := hrel
          have HS := hide hs; have HW := hide hbw; clear hs hbw
          have HB := hide (bthen HB0.out HB0.out.size HW.out)
          have HKA := hide (HKA0.out.below HW.out HKA0.out.lt); have HKB := hide (HKB0.out.below HW.out HKB0.out.lt)
          have ka := HKA.out.cell; have kb := HKB.out.cell
          have la : w.heap.size < wr.heap.size := HKA.out.lt
          have lb : w.heap.size + 1 < wr.heap.size := HKB.out.lt
          by_cases hlt : k < a.fRatios.length
          · have hlt2 : k < b.fRatios.length := by have := HL4.out; omega
            obtain ⟨b1, o1, cs1, hA1, hbw1, hcs1, hcell1⟩ := HXA4.out k (GFrac.t a.fRatios[k]) (by rw [List.getElem?_map, List.getElem?_eq_getElem hlt]; rfl)
            obtain ⟨b2, o2, cs2, hA2, hbw2, hcs2, hcell2⟩ := HXB4.out k (GFrac.t b.fRatios[k]) (by rw [List.getElem?_map, List.getElem?_eq_getElem hlt2]; rfl)
            subst hA1 hA2
            have hg1 := List.getElem?_eq_getElem hlt
            have hg2 := List.getElem?_eq_getElem hlt2
            generalize a.fRatios[k] = x at *
            generalize b.fRatios[k] = y at *
            have HG1 := hide hg1; have HG2 := hide hg2; clear hg1 hg2
            obtain rfl := GFrac.rd_open (show T.rds _ _ _ by simpa only [GFrac.t, T.rd] using hcs1)
            have d10 := (HB.out.cell hbw1).trans (hcell1 0 (.int .i64 x.fNum) rfl)
            have d11 := (HB.out.cell hbw1).trans (hcell1 1 (.int .i64 x.fDen) rfl)
            rw [show o1 + (k * 2 + 0) = o1 + k * 2 by omega] at d10
            rw [show o1 + (k * 2 + 1) = o1 + k * 2 + 1 by omega] at d11
            clear hcs1 hcell1
            have hq1 : b1 < wr.heap.size := Nat.lt_of_lt_of_le hbw1 HB.out.size
            obtain rfl := GFrac.rd_open (show T.rds _ _ _ by simpa only [GFrac.t, T.rd] using hcs2)
            have d20 := (HB.out.cell hbw2).trans (hcell2 0 (.int .i64 y.fNum) rfl)
            have d21 := (HB.out.cell hbw2).trans (hcell2 1 (.int .i64 y.fDen) rfl)
            rw [show o2 + (k * 2 + 0) = o2 + k * 2 by omega] at d20
            rw [show o2 + (k * 2 + 1) = o2 + k * 2 + 1 by omega] at d21
            clear hcs2 hcell2
            have hq2 : b2 < wr.heap.size := Nat.lt_of_lt_of_le hbw2 HB.out.size
            have hW := HW.out
            have hB := HB.out
            by_cases he : x = y
            · have hde : decide (x = y) = true := decide_eq_true he
              have heq : ∀ w, (Op.equalIn 10000 52 (.agg #[.int .i64 x.fNum, .int .i64 x.fDen]) (.agg #[.int .i64 y.fNum, .int .i64 y.fDen])).run Tryz.prog w = .ok (decide (x = y)) w := eq_Frac 9998 x y
              rw [hde] at heq
              have hgd := eqg_Frac
              have HE := hide he; clear he hde
              go_wp2
              go_quiet (fail)
              go_wp2
              go_roundw
              case rel => exact ⟨k + 1, by omega, by go_num, takes_succ HS.out HG1.out (by rw [HE.out]; exact HG2.out), (by repeat (first | with_reducible exact Below.refl _ _ | with_reducible assumption | with_reducible refine Below.setCell ?_ (by first | omega | (simp; done) | (simp; omega)) _ | with_reducible refine Below.alloc ?_ (by first | omega | (simp; done) | (simp; omega)) _ | with_reducible refine Below.drew ?_ | with_reducible refine below_drewN ?_ _ | exact Below.refl _ _ | assumption | refine Below.drew ?_ | refine below_drewN ?_ _ | refine Below.alloc ?_ (by first | omega | (simp; done) | (simp; omega)) _ | refine Below.setCell ?_ (by first | omega | (simp; done) | (simp; omega)) _))⟩
              case measure => simp [intOf]; omega
            · have hde : decide (x = y) = false := decide_eq_false he
              have heq : ∀ w, (Op.equalIn 10000 52 (.agg #[.int .i64 x.fNum, .int .i64 x.fDen]) (.agg #[.int .i64 y.fNum, .int .i64 y.fDen])).run Tryz.prog w = .ok (decide (x = y)) w := eq_Frac 9998 x y
              rw [hde] at heq
              have hgd := eqg_Frac
              have HE := hide he; clear he hde
              go_wp2
              go_quiet (fail)
              go_wp2
              go_ret
              have hne := ne_at HG1.out HG2.out HE.out
              exact ⟨ret_bool (by rw [HAB.out]; simp [H0.out, H1.out, hne]), (by repeat (first | with_reducible exact Below.refl _ _ | with_reducible assumption | with_reducible refine Below.setCell ?_ (by first | omega | (simp; done) | (simp; omega)) _ | with_reducible refine Below.alloc ?_ (by first | omega | (simp; done) | (simp; omega)) _ | with_reducible refine Below.drew ?_ | with_reducible refine below_drewN ?_ _ | exact Below.refl _ _ | assumption | refine Below.drew ?_ | refine below_drewN ?_ _ | refine Below.alloc ?_ (by first | omega | (simp; done) | (simp; omega)) _ | refine Below.setCell ?_ (by first | omega | (simp; done) | (simp; omega)) _))⟩
          · have hall := eq_of_takes (k := k) (by omega) HL4.out HS.out
            have HALL4 := hide hall; clear hall
            go_wp2
            go_ret
            exact ⟨ret_bool (by rw [HAB.out]; simp [H0.out, H1.out, HALL4.out]), HB.out⟩
      · have e2 : ((a.fRatios.length : Int) != (b.fRatios.length : Int)) = true := by simp; omega
        have H2 := hide (show ¬ a.fRatios = b.fRatios from fun e => h2 (by rw [e])); clear h2
        go_enter Tryz.func55, Tryz.ntmps55
        go_wp2
        go_ret
        exact ⟨ret_bool (by rw [HAB.out]; simp [H0.out, H1.out, H2.out]), HB0.out⟩
    · have e1 : ∀ w, (Op.equalIn 10000 52 (.agg #[.int .i64 a.fOctave.fNum, .int .i64 a.fOctave.fDen]) (.agg #[.int .i64 b.fOctave.fNum, .int .i64 b.fOctave.fDen])).run Tryz.prog w = .ok false w := by have := eq_Frac 9998 a.fOctave b.fOctave; rwa [show decide (a.fOctave = b.fOctave) = false by simp [h1]] at this
      have hgf1 := eqg_Frac
      have H1 := hide h1; clear h1
      go_enter Tryz.func55, Tryz.ntmps55
      go_wp2
      go_ret
      exact ⟨ret_bool (by rw [HAB.out]; simp [H0.out, H1.out]), HB0.out⟩
  · have e0 : ∀ w, (Op.equalIn 10000 52 (.agg #[.int .i64 a.fBase.fNum, .int .i64 a.fBase.fDen]) (.agg #[.int .i64 b.fBase.fNum, .int .i64 b.fBase.fDen])).run Tryz.prog w = .ok false w := by have := eq_Frac 9998 a.fBase b.fBase; rwa [show decide (a.fBase = b.fBase) = false by simp [h0]] at this
    have hgf0 := eqg_Frac
    have H0 := hide h0; clear h0
    go_enter Tryz.func55, Tryz.ntmps55
    go_wp2
    go_ret
    exact ⟨ret_bool (by rw [HAB.out]; simp [H0.out]), HB0.out⟩
end Go.Proofs.YtfifcnojkjjnkaaGreat
