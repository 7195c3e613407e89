/- Contracts: which nested data are the same. Words: a slice of elements opened; a struct behind a pointer. Contracts: wrapped numbers, copies, differences. Contracts: differences of an order; PredictSignal of both sides. Contracts: what is valid, by the program: lists, clips, names, sends. Contracts: the fields of an edit, program. -/
import Derived.Test.YtgmgjhdckepmmaaGreatQAiExactApplyEdits
import Derived.Laws.StructEq
import Derived.Test.YtgmgjhdckepmmaaGreatQAcExactApplyEdits
import Derived.Test.YtgmgjhdckepmmaaGreatQAaExactApplyEdits
import Derived.Test.YtgmgjhdckepmmaaGreatQAeExactApplyEdits
import Derived.Deep.RegionWith
import Derived.Deep.RegionHeld3
set_option linter.unusedVariables false
set_option linter.unusedSimpArgs false
section
namespace Go.Proofs.YtgmgjhdckepmmaaGreat
open Go.RowKit
theorem eq_Clip (d : Nat) (x y : GClip) (w : World) : (Op.equalIn (d + 2) 39 (.agg #[.int .i64 x.fSource, .int .i64 x.fFrom, .int .i64 x.fLength, .int .i64 x.fAt, .int .i64 x.fGain]) (.agg #[.int .i64 y.fSource, .int .i64 y.fFrom, .int .i64 y.fLength, .int .i64 y.fAt, .int .i64 y.fGain])).run Tryz.prog w = .ok (decide (x = y)) w := by
  have u2 := Tryz.underlying2
  have a2 := Tryz.isAgg2
  have z2 := Tryz.sizeOf2
  have hS : Tryz.prog.underlying 39 = some (.struct (Tryz.prog.fieldsOf 39)) := by kernel_rfl
  rw [show d + 2 = (d + 1) + 1 from rfl, run_equalIn_agg w (d + 1) 39 _ _ hS (by kernel_rfl)]
  simp only [Program.fieldsOf, Tryz.underlying39]
  go_simp
  obtain ⟨x0, x1, x2, x3, x4⟩ := x
  obtain ⟨y0, y1, y2, y3, y4⟩ := y
  simp only [GClip.mk.injEq]
  by_cases h0 : x0 = y0 <;> by_cases h1 : x1 = y1 <;> by_cases h2 : x2 = y2 <;> by_cases h3 : x3 = y3 <;> by_cases h4 : x4 = y4 <;> simp [h0, h1, h2, h3, h4]
theorem eqg_Clip : Tryz.prog.eqGuardType Tryz.prog.depth 39 = false := by kernel_rfl
set_option maxHeartbeats 1000000 in
theorem c_same (v u : Value) (xs ys : List Int) (w : World) (hr1 : RdI w v xs) (hr2 : RdI w u ys) : Calls Tryz.prog 230 #[v, u] w fun e w' => e = .returned (.bool (decide (xs = ys))) ∧ Dr w w' := by
  obtain ⟨A1, cap1, rfl, hl1, hc1, hx1⟩ := hr1.open_
  obtain ⟨A2, cap2, rfl, hl2, hc2, hx2⟩ := hr2.open_
  have HX1 := hide hx1; have HX2 := hide hx2; clear hx1 hx2 hr1 hr2
  by_cases hll : xs.length = ys.length
  · have hb : ((xs.length : Int) != (ys.length : Int)) = false := by simp [hll]
    have HL := hide hll; clear hll
    go_enter Tryz.func230, Tryz.ntmps230
    go_wp2
    go_loopw [14] (fun i wr => ∃ k : Nat, k ≤ xs.length ∧ i = .int .i64 k ∧ xs.take k = ys.take k ∧ Dr w wr) (fun i _ => xs.length - (intOf i).toNat)
    case atStart => exact ⟨0, Nat.zero_le _, rfl, rfl, Dr.refl _⟩
    case round =>
      obtain ⟨k, hk, rfl, hs, nr, rfl⟩ := hrel
      have HS := hide hs; clear hs
      by_cases hlt : k < xs.length
      · have hlt2 : k < ys.length := by have := HL.out; omega
        obtain ⟨b1, off1, rfl, hb1, hcell1⟩ := HX1.out k xs[k] (List.getElem?_eq_getElem hlt)
        obtain ⟨b2, off2, rfl, hb2, hcell2⟩ := HX2.out k ys[k] (List.getElem?_eq_getElem hlt2)
        by_cases he : xs[k] = ys[k]
        · have hd : (xs[k] != ys[k]) = false := by simp [he]
          have HE := hide he; clear he
          go_wp2
          go_roundw
          case rel => exact ⟨k + 1, by omega, by go_num, takes_succ HS.out (List.getElem?_eq_getElem hlt) (by rw [HE.out]; exact List.getElem?_eq_getElem hlt2), (by repeat (first | exact Dr.refl _ | exact ⟨_, rfl⟩ | refine Dr.drewN ?_ _ | refine Dr.drew ?_))⟩
          case measure => simp [intOf]; omega
        · have hd : (xs[k] != ys[k]) = true := by simp [he]
          have HE := hide he; clear he
          go_wp2
          go_ret
          exact ⟨by simp [ne_at (List.getElem?_eq_getElem hlt) (List.getElem?_eq_getElem hlt2) HE.out], (by repeat (first | exact Dr.refl _ | exact ⟨_, rfl⟩ | refine Dr.drewN ?_ _ | refine Dr.drew ?_))⟩
      · go_wp2
        go_ret
        exact ⟨by simp [eq_of_takes (k := k) (by omega) HL.out HS.out], (by repeat (first | exact Dr.refl _ | exact ⟨_, rfl⟩ | refine Dr.drewN ?_ _ | refine Dr.drew ?_))⟩
  · have hb : ((xs.length : Int) != (ys.length : Int)) = true := by simp; omega
    have hne : xs ≠ ys := fun e => hll (by rw [e])
    have HN := hide hne; clear hll hne
    go_enter Tryz.func230, Tryz.ntmps230
    go_wp2
    go_ret
    exact ⟨by simp [HN.out], Dr.refl _⟩
set_option maxHeartbeats 1000000 in
theorem c_sameAll (v u : Value) (xs ys : List (List Int)) (w : World) (hr : T.rd w (T.sl 26 1 (xs.map (T.ints 2))) [v]) (ht : T.rd w (T.sl 26 1 (ys.map (T.ints 2))) [u]) :
    Calls Tryz.prog 229 #[v, u] w fun e w' => e = .returned (.bool (decide (xs = ys))) ∧ Dr w w' := by
  obtain ⟨A1, cap1, rfl, hl1, hc1, hx1⟩ := T.rd_open hr
  obtain ⟨A2, cap2, rfl, hl2, hc2, hx2⟩ := T.rd_open ht
  rw [List.length_map] at hl1 hl2 ⊢
  rw [List.length_map]
  have HX1 := hide hx1; have HX2 := hide hx2; clear hx1 hx2 hr ht
  by_cases hll : xs.length = ys.length
  · have hb : ((xs.length : Int) != (ys.length : Int)) = false := by simp [hll]
    have HL := hide hll; clear hll
    go_enter Tryz.func229, Tryz.ntmps229
    go_wp2
    go_loopw [14] (fun i wr => ∃ k : Nat, k ≤ xs.length ∧ i = .int .i64 k ∧ xs.take k = ys.take k ∧ Dr w wr) (fun i _ => xs.length - (intOf i).toNat)
    case atStart => exact ⟨0, Nat.zero_le _, rfl, rfl, Dr.refl _⟩
    case round =>
      obtain ⟨k, hk, rfl, hs, nr, rfl⟩ := hrel
      have HS := hide hs; clear hs
      by_cases hlt : k < xs.length
      · have hlt2 : k < ys.length := by have := HL.out; omega
        obtain ⟨b1, o1, cs1, rfl, hb1, hcs1, hcell1⟩ := HX1.out k (T.ints 2 xs[k]) (by rw [List.getElem?_map, List.getElem?_eq_getElem hlt]; rfl)
        obtain ⟨b2, o2, cs2, rfl, hb2, hcs2, hcell2⟩ := HX2.out k (T.ints 2 ys[k]) (by rw [List.getElem?_map, List.getElem?_eq_getElem hlt2]; rfl)
        have hg1 := List.getElem?_eq_getElem hlt
        have hg2 := List.getElem?_eq_getElem hlt2
        generalize xs[k] = x at *
        generalize ys[k] = y at *
        have HG1 := hide hg1; have HG2 := hide hg2; clear hg1 hg2
        obtain ⟨v3, rfl⟩ := T.rd_one hcs1
        obtain ⟨v4, rfl⟩ := T.rd_one hcs2
        have d0 := hcell1 0 v3 rfl
        have g0 := hcell2 0 v4 rfl
        rw [Nat.mul_one, Nat.add_zero] at d0 g0
        have R1 := hide (show RdI (w.drewN nr) v3 x from Rd.drewN (T.rd_ints.1 hcs1) nr); have R2 := hide (show RdI (w.drewN nr) v4 y from Rd.drewN (T.rd_ints.1 hcs2) nr)
        clear hcs1 hcs2 hcell1 hcell2
        by_cases he : x = y
        · have hde : decide (x = y) = true := decide_eq_true he
          have HE := hide he; clear he
          go_wp2_with (go_at_call 230; refine (c_same _ _ x y _ R1.out R2.out).mono ?_; rintro e w3 ⟨rfl, hd3⟩; rw [hde])
          go_roundw
          case rel => exact ⟨k + 1, by omega, by go_num, takes_succ HS.out HG1.out (by rw [HE.out]; exact HG2.out), (Dr.drewN (Dr.refl _) _).trans hd3⟩
          case measure => simp [intOf]; omega
        · have hde : decide (x = y) = false := decide_eq_false he
          have HE := hide he; clear he
          go_wp2_with (go_at_call 230; refine (c_same _ _ x y _ R1.out R2.out).mono ?_; rintro e w3 ⟨rfl, hd3⟩; rw [hde])
          go_ret
          exact ⟨by simp [ne_at HG1.out HG2.out HE.out], (Dr.drewN (Dr.refl _) _).trans hd3⟩
      · go_wp2
        go_ret
        exact ⟨by simp [eq_of_takes (k := k) (by omega) HL.out HS.out], (by repeat (first | exact Dr.refl _ | exact ⟨_, rfl⟩ | refine Dr.drewN ?_ _ | refine Dr.drew ?_))⟩
  · have hb : ((xs.length : Int) != (ys.length : Int)) = true := by simp; omega
    have hne : xs ≠ ys := fun e => hll (by rw [e])
    have HN := hide hne; clear hll hne
    go_enter Tryz.func229, Tryz.ntmps229
    go_wp2
    go_ret
    exact ⟨by simp [HN.out], Dr.refl _⟩
set_option maxHeartbeats 1000000 in
set_option maxRecDepth 20000 in
theorem c_iSameNode (a b : GNode) (v3 : Value) (u3 : Value) (w : World) (r3 : T.rd w (T.ints 2 a.fFrom) [v3]) (t3 : T.rd w (T.ints 2 b.fFrom) [u3]) :
    Calls Tryz.prog 231 #[.agg #[.int .i64 a.fKind, .int .i64 a.fA, .int .i64 a.fB, v3], .agg #[.int .i64 b.fKind, .int .i64 b.fA, .int .i64 b.fB, u3]] w fun e w' => e = .returned (.bool (decide (a = b))) ∧ Below w.heap.size w w' := by
  have hab : decide (a = b) = (decide (a.fKind = b.fKind) && (decide (a.fA = b.fA) && (decide (a.fB = b.fB) && (decide (a.fFrom = b.fFrom))))) := by
    obtain ⟨x0, x1, x2, x3⟩ := a
    obtain ⟨y0, y1, y2, y3⟩ := b
    rw [Bool.eq_iff_iff]
    simp only [GNode.mk.injEq, decide_eq_true_eq, Bool.and_eq_true]
    try (constructor <;> (intro h; simp [h]))
  have R3 := hide r3; have Q3 := hide t3
  obtain ⟨va3, vl3, vc3, rfl⟩ := T.rd_slice r3
  obtain ⟨ua3, ul3, uc3, rfl⟩ := T.rd_slice t3
  clear r3 t3
  have HAB := hide hab; clear hab
  have HB0 := hide (show Below w.heap.size w ((w.alloc (.cells #[.int .i64 a.fKind, .int .i64 a.fA, .int .i64 a.fB, (.slice va3 vl3 vc3)] 170)).alloc (.cells #[.int .i64 b.fKind, .int .i64 b.fA, .int .i64 b.fB, (.slice ua3 ul3 uc3)] 170)) from ((Below.refl _ _).alloc (Nat.le_refl _) _).alloc (by first | (simp; done) | (simp; omega) | omega) _)
  have HKA0 := hide ((Bk.born w 170 #[.int .i64 a.fKind, .int .i64 a.fA, .int .i64 a.fB, (.slice va3 vl3 vc3)]).alloc (.cells #[.int .i64 b.fKind, .int .i64 b.fA, .int .i64 b.fB, (.slice ua3 ul3 uc3)] 170))
  have HKB0 := hide (Bk.born1' w (.cells #[.int .i64 a.fKind, .int .i64 a.fA, .int .i64 a.fB, (.slice va3 vl3 vc3)] 170) 170 #[.int .i64 b.fKind, .int .i64 b.fA, .int .i64 b.fB, (.slice ua3 ul3 uc3)])
  by_cases h0 : a.fKind = b.fKind
  · have e0 : (a.fKind == b.fKind) = true := by simp [h0]
    have H0 := hide h0; clear h0
    by_cases h1 : a.fA = b.fA
    · have e1 : (a.fA == b.fA) = true := by simp [h1]
      have H1 := hide h1; clear h1
      by_cases h2 : a.fB = b.fB
      · have e2 : (a.fB == b.fB) = true := by simp [h2]
        have H2 := hide h2; clear h2
        by_cases h3 : a.fFrom = b.fFrom
        · have c3 : decide (a.fFrom = b.fFrom) = true := by simp [h3]
          have H3 := hide h3; clear h3
          go_enter Tryz.func231, Tryz.ntmps231
          go_wp2_with fail
          refine (c_same _ _ a.fFrom b.fFrom _ (T.rd_ints.1 (T.rd_below R3.out HB0.out)) (T.rd_ints.1 (T.rd_below Q3.out HB0.out))).mono ?_; rintro e w1 ⟨rfl, hd⟩; rw [c3]
          have hb : Below (((w.alloc (.cells #[.int .i64 a.fKind, .int .i64 a.fA, .int .i64 a.fB, (.slice va3 vl3 vc3)] 170)).alloc (.cells #[.int .i64 b.fKind, .int .i64 b.fA, .int .i64 b.fB, (.slice ua3 ul3 uc3)] 170))).heap.size ((w.alloc (.cells #[.int .i64 a.fKind, .int .i64 a.fA, .int .i64 a.fB, (.slice va3 vl3 vc3)] 170)).alloc (.cells #[.int .i64 b.fKind, .int .i64 b.fA, .int .i64 b.fB, (.slice ua3 ul3 uc3)] 170)) w1 := by first | exact hd.to_below _ | exact hd
          have HKA1 := hide (HKA0.out.below hb HKA0.out.lt); have HKB1 := hide (HKB0.out.below hb HKB0.out.lt); have HB1 := hide (bthen HB0.out HB0.out.size hb); clear hb hd
          have ka1 := HKA1.out.cell; have kb1 := HKB1.out.cell
          go_wp2
          go_ret
          exact ⟨ret_bool (by rw [HAB.out]; simp [H0.out, H1.out, H2.out, H3.out]), HB1.out⟩
        · have c3 : decide (a.fFrom = b.fFrom) = false := by simp [h3]
          have H3 := hide h3; clear h3
          go_enter Tryz.func231, Tryz.ntmps231
          go_wp2_with fail
          refine (c_same _ _ a.fFrom b.fFrom _ (T.rd_ints.1 (T.rd_below R3.out HB0.out)) (T.rd_ints.1 (T.rd_below Q3.out HB0.out))).mono ?_; rintro e w1 ⟨rfl, hd⟩; rw [c3]
          have hb : Below (((w.alloc (.cells #[.int .i64 a.fKind, .int .i64 a.fA, .int .i64 a.fB, (.slice va3 vl3 vc3)] 170)).alloc (.cells #[.int .i64 b.fKind, .int .i64 b.fA, .int .i64 b.fB, (.slice ua3 ul3 uc3)] 170))).heap.size ((w.alloc (.cells #[.int .i64 a.fKind, .int .i64 a.fA, .int .i64 a.fB, (.slice va3 vl3 vc3)] 170)).alloc (.cells #[.int .i64 b.fKind, .int .i64 b.fA, .int .i64 b.fB, (.slice ua3 ul3 uc3)] 170)) w1 := by first | exact hd.to_below _ | exact hd
          have HKA1 := hide (HKA0.out.below hb HKA0.out.lt); have HKB1 := hide (HKB0.out.below hb HKB0.out.lt); have HB1 := hide (bthen HB0.out HB0.out.size hb); clear hb hd
          have ka1 := HKA1.out.cell; have kb1 := HKB1.out.cell
          go_wp2
          go_ret
          exact ⟨ret_bool (by rw [HAB.out]; simp [H0.out, H1.out, H2.out, H3.out]), HB1.out⟩
      · have e2 : (a.fB == b.fB) = false := by simp [h2]
        have H2 := hide h2; clear h2
        go_enter Tryz.func231, Tryz.ntmps231
        go_wp2
        go_ret
        exact ⟨ret_bool (by rw [HAB.out]; simp [H0.out, H1.out, H2.out]), HB0.out⟩
    · have e1 : (a.fA == b.fA) = false := by simp [h1]
      have H1 := hide h1; clear h1
      go_enter Tryz.func231, Tryz.ntmps231
      go_wp2
      go_ret
      exact ⟨ret_bool (by rw [HAB.out]; simp [H0.out, H1.out]), HB0.out⟩
  · have e0 : (a.fKind == b.fKind) = false := by simp [h0]
    have H0 := hide h0; clear h0
    go_enter Tryz.func231, Tryz.ntmps231
    go_wp2
    go_ret
    exact ⟨ret_bool (by rw [HAB.out]; simp [H0.out]), HB0.out⟩
end Go.Proofs.YtgmgjhdckepmmaaGreat
end
section
namespace Go.Proofs.YtgmgjhdckepmmaaGreat
open Go.RowKit
theorem T.rd_openG {w : World} {E : TypeId} {sz : Nat} {α : Type} {tr : α → T} {xs : List α} {v : Value} (h : T.rd w (.sl E sz (xs.map tr)) [v]) :
    ∃ A cap, v = .slice A xs.length cap ∧ xs.length ≤ cap ∧ cap ≤ 9223372036854775807 ∧
      (∀ k x, xs[k]? = some x → ∃ b off cs, A = some ⟨b, off, none⟩ ∧ b < w.heap.size ∧ T.rd w (tr x) cs ∧ ∀ j u, cs[j]? = some u → w.cell? ⟨b, off + (k * sz + j), none⟩ = some u) := by
  obtain ⟨A, cap, hv, h1, h2, h3⟩ := T.rd_open h
  rw [List.length_map] at hv h1
  exact ⟨A, cap, hv, h1, h2, fun k x hk => h3 k (tr x) (by rw [List.getElem?_map, hk]; rfl)⟩
theorem T.rds_below' {w w' : World} {x : List T} {cs : List Value} (h : T.rds w x cs) (hb : Below w.heap.size w w') : T.rds w' x cs := T.rds_keep hb.size hb.block x cs h
/-- The struct's cells lie from place o of block b on. -/
def T.at (w : World) (fs : List T) (b o : Nat) : Prop := b < w.heap.size ∧ ∃ cs, T.rds w fs cs ∧ ∀ j u, cs[j]? = some u → w.cell? ⟨b, o + j, none⟩ = some u
theorem T.at_below {w w' : World} {fs : List T} {b o : Nat} (h : T.at w fs b o) (hb : Below w.heap.size w w') : T.at w' fs b o := by
  obtain ⟨h1, cs, h2, h3⟩ := h
  exact ⟨Nat.lt_of_lt_of_le h1 hb.size, cs, T.rds_below' h2 hb, fun j u hj => (hb.cell h1).trans (h3 j u hj)⟩
/-- An element of a slice, as a struct behind a pointer. -/
theorem T.at_elem {w : World} {fs : List T} {b off k sz o : Nat} {cs : List Value} (hb : b < w.heap.size) (h : T.rds w fs cs) (hc : ∀ j u, cs[j]? = some u → w.cell? ⟨b, off + (k * sz + j), none⟩ = some u) (ho : o = off + k * sz) : T.at w fs b o :=
  ⟨hb, cs, h, fun j u hj => by rw [ho, Nat.add_assoc]; exact hc j u hj⟩
/-- A block known whole, as a struct behind a pointer. -/
theorem T.at_bk {w : World} {fs : List T} {b : Nat} {t : TypeId} {cs : List Value} (hk : Bk w b t cs.toArray) (h : T.rds w fs cs) : T.at w fs b 0 :=
  ⟨hk.lt, cs, h, fun j u hj => by rw [Nat.zero_add, hk.cell j]; simpa using hj⟩
theorem beqI_f {a b : Int} (h : a ≠ b) : (a == b) = false := beq_false_of_ne h
theorem beqI_t {a b : Int} (h : a = b) : (a == b) = true := by simp [h]
theorem bneI_t {a b : Int} (h : a ≠ b) : (a != b) = true := by simp [h]
theorem bneI_f {a b : Int} (h : a = b) : (a != b) = false := by simp [h]
/-- Any world in which what lies in W still lies as it did. -/
noncomputable def bel (W u : World) : World := @ite _ (Below W.heap.size W u) (Classical.propDecidable _) u W
theorem bel_below (W u : World) : Below W.heap.size W (bel W u) := by
  unfold bel
  split
  · assumption
  · exact Below.refl _ _
theorem bel_of {W u : World} (h : Below W.heap.size W u) : u = bel W u := by
  unfold bel
  rw [if_pos h]
theorem bel_cell {W : World} {b o : Nat} {v : Value} (h : W.cell? ⟨b, o, none⟩ = some v) : ∀ u, (bel W u).cell? ⟨b, o, none⟩ = some v := fun u =>
  ((bel_below W u).cell (World.block_lt_of_cell? W _ h)).trans h
theorem bel_bk {W : World} {g : Nat} {t : TypeId} {cs : Array Value} (h : Bk W g t cs) : ∀ u i, (bel W u).cell? ⟨g, i, none⟩ = cs[i]? := fun u i =>
  (h.below (bel_below W u) h.lt).cell i
/-- A region that draws its order, whose operations and calls leave what was there as it was: one walk in the order of the text. -/
theorem wp_region_bel {P : Program} {id : Nat} {Q : Exit → Act → World → Prop} {a : Act} {w : World} {l : List Oper} (hm : P.follows .mixedOrders = true) (hB : Region.lexB .any l.toArray = true)
    (h : wpQuiet P l.toArray (fun w' => ∃ u, w' = bel w u) (fun a' => ∀ w', (∃ u, w' = bel w u) → Q .normal a' w') l a) : (Code.region id l.toArray true).wp P Q a w :=
  wp_region_quiet (C := fun w' => ∃ u, w' = bel w u) hm hB ⟨_, bel_of ⟨rfl, rfl, rfl, Nat.le_refl _, fun _ _ => rfl⟩⟩ (by simpa using h)
theorem Calls.quiet_bel {P : Program} {f : FuncId} {args : Array Value} {w u : World} {v : Value}
    (h : Calls P f args (bel w u) fun e w' => e = .returned v ∧ Below (bel w u).heap.size (bel w u) w') : Calls P f args (bel w u) fun e w'' => e = .returned v ∧ ∃ m, w'' = bel w m :=
  h.mono fun _ w' ⟨he, hb⟩ => ⟨he, w', bel_of (bthen (bel_below w u) (bel_below w u).size hb)⟩
theorem Calls.quiet_bel_same {P : Program} {f : FuncId} {args : Array Value} {w u : World} {v : Value}
    (h : Calls P f args (bel w u) fun e w' => e = .returned v ∧ bel w u = w') : Calls P f args (bel w u) fun e w'' => e = .returned v ∧ ∃ m, w'' = bel w m :=
  h.mono fun _ w' ⟨he, hb⟩ => ⟨he, u, hb.symm⟩
end Go.Proofs.YtgmgjhdckepmmaaGreat
end
section
namespace Go.Proofs.YtgmgjhdckepmmaaGreat
open Go.RowKit
set_option maxHeartbeats 400000 in
theorem c_l00Own (v : Value) (xs : List Int) (w : World) (hr : RdI w v xs) (hn : xs.length ≤ 1048576) : Calls Tryz.prog 95 #[v] w fun e w' => ∃ v', e = .returned v' ∧ OwI 2 w' w.heap.size v' xs ∧ Below w.heap.size w w' := by
  have HR := hide hr; clear hr
  go_enter Tryz.func95, Tryz.ntmps95
  go_wp2_with (at_builtin; refine appm_i64 rfl _ _ rfl rfl (new_i64 w) rfl (Rd.alloc HR.out _) (by simp; omega) (by simp) ?_; intro v1 w1 ho hg hv)
  go_ret
  exact ⟨_, rfl, by simpa using ho, below_own ((Below.refl _ _).alloc (Nat.le_refl _) _) (new_i64 w) hg (Nat.le_refl _) (by simp)⟩
set_option maxHeartbeats 400000 in
theorem c_clone (v : Value) (xs : List Int) (w : World) (hr : RdI w v xs) (hn : xs.length ≤ 1048576) : Calls Tryz.prog 88 #[v] w fun e w' => ∃ v', e = .returned v' ∧ OwI 2 w' w.heap.size v' xs ∧ Below w.heap.size w w' := by
  have HR := hide hr; clear hr
  go_enter Tryz.func88, Tryz.ntmps88
  go_wp2_with (at_builtin; refine appm_i64 rfl _ _ rfl rfl (new_i64 w) rfl (Rd.alloc HR.out _) (by simp; omega) (by simp) ?_; intro v1 w1 ho hg hv)
  go_ret
  exact ⟨_, rfl, by simpa using ho, below_own ((Below.refl _ _).alloc (Nat.le_refl _) _) (new_i64 w) hg (Nat.le_refl _) (by simp)⟩
end Go.Proofs.YtgmgjhdckepmmaaGreat
end
section
namespace Go.Proofs.YtgmgjhdckepmmaaGreat
open Go.RowKit
set_option maxHeartbeats 400000 in
theorem c_size (v : Value) (xs : List Int) (w : World) (hr : RdI w v xs) : Calls Tryz.prog 150 #[v] w fun e w' => e = .returned (.int .i64 (xs.length : Int)) ∧ w = w' := by
  obtain ⟨A, cap, rfl, hl, hc, hx⟩ := hr.open_
  clear hx hr
  go_enter Tryz.func150, Tryz.ntmps150
  go_wp2
  go_ret
  exact ⟨rfl, rfl⟩
end Go.Proofs.YtgmgjhdckepmmaaGreat
end
section
namespace Go.Proofs.YtgmgjhdckepmmaaGreat
open Go.RowKit
theorem inB_iff {n a b : Int} : inB n a b = true ↔ a ≤ n ∧ n ≤ b := by simp [inB]
theorem inB_not {n a b : Int} (h : inB n a b = false) (k : a ≤ n ∧ n ≤ b) : False := by simp [inB] at h; omega
set_option maxHeartbeats 2000000 in
set_option maxRecDepth 20000 in
theorem c_areIndices (v : Value) (xs : List Int) (n : Int) (w : World) (hr : RdI w v xs) (h0 : 0 ≤ n) (h1 : n ≤ 9223372036854775807) : Calls Tryz.prog 106 #[v, .int .i64 n] w fun e w' => e = .returned (.bool (tf (Idx xs n))) ∧ w = w' := by
  obtain ⟨A, cap, rfl, hl, hc, hx⟩ := hr.open_
  have HX := hide hx; clear hx hr
  go_enter Tryz.func106, Tryz.ntmps106
  go_wp2
  go_loop [9] (fun i => ∃ k : Nat, k ≤ xs.length ∧ i = .int .i64 k ∧ Upto xs (fun _ x => 0 ≤ x ∧ x ≤ n - 1) k) (fun i => xs.length - (intOf i).toNat)
  case atStart => exact ⟨0, Nat.zero_le _, rfl, Upto.zero⟩
  case round =>
    obtain ⟨k, hk, rfl, hs⟩ := hrel
    have HS := hide hs; clear hs
    by_cases hlt : k < xs.length
    · have hgk := List.getElem?_eq_getElem hlt
      obtain ⟨b, off, rfl, hb, hcell⟩ := HX.out k xs[k] hgk
      generalize xs[k] = x at *
      have HG := hide hgk; clear hgk
      by_cases hq : inB x 0 (n - 1) = true
      · go_wp2_with (go_at_call 103; refine (c_within _ _ _ _).mono ?_; rintro e w' ⟨rfl, rfl⟩)
        go_round
        case rel => exact ⟨k + 1, by omega, by go_num, HS.out.step HG.out (inB_iff.1 hq)⟩
        case measure => simp [intOf]; omega
      · have hq' : inB x 0 (n - 1) = false := by simpa using hq
        clear hq
        go_wp2_with (go_at_call 103; refine (c_within _ _ _ _).mono ?_; rintro e w' ⟨rfl, rfl⟩)
        go_ret
        exact ⟨ret_bool (tf_no (fun hh => inB_not hq' (hh k x HG.out))).symm, rfl⟩
    · have hall := hide (HS.out.all (by omega))
      go_wp2
      go_ret
      exact ⟨ret_bool ((tf_yes hall.out).symm), rfl⟩
set_option maxHeartbeats 2000000 in
set_option maxRecDepth 20000 in
theorem c_areSignals (v : Value) (xs : List (List Int)) (w : World) (hr : T.rd w (T.sl 26 1 (xs.map (T.ints 2))) [v]) : Calls Tryz.prog 161 #[v] w fun e w' => e = .returned (.bool (tf (Each xs fun _ l => sigB l = true))) ∧ w = w' := by
  obtain ⟨A, cap, rfl, hl, hc, hx⟩ := T.rd_openG hr
  have HX := hide hx; clear hx hr
  go_enter Tryz.func161, Tryz.ntmps161
  go_wp2
  go_loop [7] (fun i => ∃ k : Nat, k ≤ xs.length ∧ i = .int .i64 k ∧ Upto xs (fun _ l => sigB l = true) k) (fun i => xs.length - (intOf i).toNat)
  case atStart => exact ⟨0, Nat.zero_le _, rfl, Upto.zero⟩
  case round =>
    obtain ⟨k, hk, rfl, hs⟩ := hrel
    have HS := hide hs; clear hs
    by_cases hlt : k < xs.length
    · have hgk := List.getElem?_eq_getElem hlt
      obtain ⟨b, off, cs, rfl, hb, hcs, hcell⟩ := HX.out k xs[k] hgk
      generalize xs[k] = l at *
      have HG := hide hgk; clear hgk
      obtain ⟨v3, rfl⟩ := T.rd_one hcs
      have d0 := hcell 0 v3 rfl
      rw [Nat.mul_one, Nat.add_zero] at d0
      have R := hide (T.rd_ints.1 hcs); clear hcs hcell
      obtain ⟨A3, c3, rfl, l3, m3, x3⟩ := R.out.open_
      clear x3
      by_cases hq : sigB l = true
      · go_wp2_with (go_at_call 202; refine (c_isSignal _ l _ R.out).mono ?_; rintro e w' ⟨rfl, rfl⟩)
        go_round
        case rel => exact ⟨k + 1, by omega, by go_num, HS.out.step HG.out hq⟩
        case measure => simp [intOf]; omega
      · have hq' : sigB l = false := by simpa using hq
        clear hq
        go_wp2_with (go_at_call 202; refine (c_isSignal _ l _ R.out).mono ?_; rintro e w' ⟨rfl, rfl⟩)
        go_ret
        exact ⟨ret_bool (tf_no (fun hh => by rw [hh k l HG.out] at hq'; exact absurd hq' (by simp))).symm, rfl⟩
    · have hall := hide (HS.out.all (by omega)); clear HS
      go_wp2
      go_ret
      exact ⟨ret_bool (tf_yes hall.out).symm, rfl⟩
set_option maxHeartbeats 2000000 in
set_option maxRecDepth 20000 in
theorem c_areSources (v : Value) (xs : List (List Int)) (w : World) (hr : T.rd w (T.sl 26 1 (xs.map (T.ints 2))) [v]) : Calls Tryz.prog 104 #[v] w fun e w' => e = .returned (.bool (tf (SourcesOk xs))) ∧ w = w' := by
  have R := hide hr
  obtain ⟨A, cap, rfl, hl, hc, hx⟩ := T.rd_openG hr
  clear hx hr
  by_cases h6 : xs.length ≤ 6
  · go_enter Tryz.func104, Tryz.ntmps104
    go_wp2_with (go_at_call 161; refine (c_areSignals _ xs _ R.out).mono ?_; rintro e w' ⟨rfl, rfl⟩)
    go_ret
    exact ⟨ret_bool (tf_iff ⟨fun h => ⟨h, h6⟩, fun h => h.each⟩), rfl⟩
  · go_enter Tryz.func104, Tryz.ntmps104
    go_wp2
    go_ret
    exact ⟨ret_bool (tf_no fun h => h6 h.few).symm, rfl⟩
set_option maxHeartbeats 2000000 in
set_option maxRecDepth 20000 in
theorem c_areTables (v : Value) (xs : List (List Int)) (w : World) (hr : T.rd w (T.sl 26 1 (xs.map (T.ints 2))) [v]) : Calls Tryz.prog 233 #[v] w fun e w' => e = .returned (.bool (tf (TablesOk xs))) ∧ w = w' := by
  obtain ⟨A, cap, rfl, hl, hc, hx⟩ := T.rd_openG hr
  have HX := hide hx; clear hx hr
  go_enter Tryz.func233, Tryz.ntmps233
  go_wp2
  go_loop [8] (fun i => ∃ k : Nat, k ≤ xs.length ∧ i = .int .i64 k ∧ Upto xs (fun _ t => (t.length = 2 ∨ t.length = 4 ∨ t.length = 8 ∨ t.length = 16) ∧ smpB t = true) k) (fun i => xs.length - (intOf i).toNat)
  case atStart => exact ⟨0, Nat.zero_le _, rfl, Upto.zero⟩
  case round =>
    obtain ⟨k, hk, rfl, hs⟩ := hrel
    have HS := hide hs; clear hs
    by_cases hlt : k < xs.length
    · have hgk := List.getElem?_eq_getElem hlt
      obtain ⟨b, off, cs, rfl, hb, hcs, hcell⟩ := HX.out k xs[k] hgk
      generalize xs[k] = l at *
      have HG := hide hgk; clear hgk
      obtain ⟨v3, rfl⟩ := T.rd_one hcs
      have d0 := hcell 0 v3 rfl
      rw [Nat.mul_one, Nat.add_zero] at d0
      have R := hide (T.rd_ints.1 hcs); clear hcs hcell
      obtain ⟨A3, c3, rfl, l3, m3, x3⟩ := R.out.open_
      clear x3
      by_cases hn : l.length = 2 ∨ l.length = 4 ∨ l.length = 8 ∨ l.length = 16
      · by_cases hq : smpB l = true
        · rcases hn with hn | hn | hn | hn
          · skip
            have n2 : ((l.length : Int) != 2) = false := by simp; omega
            clear hn
            have hn : l.length = 2 ∨ l.length = 4 ∨ l.length = 8 ∨ l.length = 16 := by simp at n2; omega
            have HN := hide hn; clear hn
            go_wp2_with (go_at_call 151; refine (c_areSamples _ l _ R.out).mono ?_; rintro e w' ⟨rfl, rfl⟩)
            go_round
            case rel => exact ⟨k + 1, by omega, by go_num, HS.out.step HG.out ⟨HN.out, hq⟩⟩
            case measure => simp [intOf]; omega
          · skip
            have n2 : ((l.length : Int) != 2) = true := by simp; omega
            have n4 : ((l.length : Int) != 4) = false := by simp; omega
            clear hn
            have hn : l.length = 2 ∨ l.length = 4 ∨ l.length = 8 ∨ l.length = 16 := by simp at n4; omega
            have HN := hide hn; clear hn
            go_wp2_with (go_at_call 151; refine (c_areSamples _ l _ R.out).mono ?_; rintro e w' ⟨rfl, rfl⟩)
            go_round
            case rel => exact ⟨k + 1, by omega, by go_num, HS.out.step HG.out ⟨HN.out, hq⟩⟩
            case measure => simp [intOf]; omega
          · skip
            have n2 : ((l.length : Int) != 2) = true := by simp; omega
            have n4 : ((l.length : Int) != 4) = true := by simp; omega
            have n8 : ((l.length : Int) != 8) = false := by simp; omega
            clear hn
            have hn : l.length = 2 ∨ l.length = 4 ∨ l.length = 8 ∨ l.length = 16 := by simp at n8; omega
            have HN := hide hn; clear hn
            go_wp2_with (go_at_call 151; refine (c_areSamples _ l _ R.out).mono ?_; rintro e w' ⟨rfl, rfl⟩)
            go_round
            case rel => exact ⟨k + 1, by omega, by go_num, HS.out.step HG.out ⟨HN.out, hq⟩⟩
            case measure => simp [intOf]; omega
          · skip
            have n2 : ((l.length : Int) != 2) = true := by simp; omega
            have n4 : ((l.length : Int) != 4) = true := by simp; omega
            have n8 : ((l.length : Int) != 8) = true := by simp; omega
            have n16 : ((l.length : Int) != 16) = false := by simp; omega
            clear hn
            have hn : l.length = 2 ∨ l.length = 4 ∨ l.length = 8 ∨ l.length = 16 := by simp at n16; omega
            have HN := hide hn; clear hn
            go_wp2_with (go_at_call 151; refine (c_areSamples _ l _ R.out).mono ?_; rintro e w' ⟨rfl, rfl⟩)
            go_round
            case rel => exact ⟨k + 1, by omega, by go_num, HS.out.step HG.out ⟨HN.out, hq⟩⟩
            case measure => simp [intOf]; omega
        · have hq' : smpB l = false := by simpa using hq
          clear hq
          rcases hn with hn | hn | hn | hn
          · skip
            have n2 : ((l.length : Int) != 2) = false := by simp; omega
            clear hn
            go_wp2_with (go_at_call 151; refine (c_areSamples _ l _ R.out).mono ?_; rintro e w' ⟨rfl, rfl⟩)
            go_ret
            exact ⟨ret_bool (tf_no (fun hh => by rw [(hh.each k l HG.out).2] at hq'; exact absurd hq' (by simp))).symm, rfl⟩
          · skip
            have n2 : ((l.length : Int) != 2) = true := by simp; omega
            have n4 : ((l.length : Int) != 4) = false := by simp; omega
            clear hn
            go_wp2_with (go_at_call 151; refine (c_areSamples _ l _ R.out).mono ?_; rintro e w' ⟨rfl, rfl⟩)
            go_ret
            exact ⟨ret_bool (tf_no (fun hh => by rw [(hh.each k l HG.out).2] at hq'; exact absurd hq' (by simp))).symm, rfl⟩
          · skip
            have n2 : ((l.length : Int) != 2) = true := by simp; omega
            have n4 : ((l.length : Int) != 4) = true := by simp; omega
            have n8 : ((l.length : Int) != 8) = false := by simp; omega
            clear hn
            go_wp2_with (go_at_call 151; refine (c_areSamples _ l _ R.out).mono ?_; rintro e w' ⟨rfl, rfl⟩)
            go_ret
            exact ⟨ret_bool (tf_no (fun hh => by rw [(hh.each k l HG.out).2] at hq'; exact absurd hq' (by simp))).symm, rfl⟩
          · skip
            have n2 : ((l.length : Int) != 2) = true := by simp; omega
            have n4 : ((l.length : Int) != 4) = true := by simp; omega
            have n8 : ((l.length : Int) != 8) = true := by simp; omega
            have n16 : ((l.length : Int) != 16) = false := by simp; omega
            clear hn
            go_wp2_with (go_at_call 151; refine (c_areSamples _ l _ R.out).mono ?_; rintro e w' ⟨rfl, rfl⟩)
            go_ret
            exact ⟨ret_bool (tf_no (fun hh => by rw [(hh.each k l HG.out).2] at hq'; exact absurd hq' (by simp))).symm, rfl⟩
      · have n2 : ((l.length : Int) != 2) = true := by simp; omega
        have n4 : ((l.length : Int) != 4) = true := by simp; omega
        have n8 : ((l.length : Int) != 8) = true := by simp; omega
        have n16 : ((l.length : Int) != 16) = true := by simp; omega
        go_wp2
        go_ret
        exact ⟨ret_bool (tf_no (fun hh => hn (hh.each k l HG.out).1)).symm, rfl⟩
    · have hall := hide (HS.out.all (by omega)); clear HS
      by_cases h4 : xs.length ≤ 4
      · go_wp2
        go_ret
        exact ⟨ret_bool (by rw [tf_yes ⟨hall.out, h4⟩]; simp; omega), rfl⟩
      · go_wp2
        go_ret
        exact ⟨ret_bool (by rw [tf_no fun h => h4 h.few]; simp; omega), rfl⟩
set_option maxHeartbeats 2000000 in
set_option maxRecDepth 20000 in
theorem c_isClip (x : GClip) (cs : List Value) (w : World) (h : T.rds w x.fs cs) : Calls Tryz.prog 164 #[.agg cs.toArray] w fun e w' => e = .returned (.bool (tf (ClipOk x))) ∧ Below w.heap.size w w' := by
  obtain rfl := GClip.rd_open h
  clear h
  have HB0 := hide (show Below w.heap.size w (w.alloc (.cells #[.int .i64 x.fSource, .int .i64 x.fFrom, .int .i64 x.fLength, .int .i64 x.fAt, .int .i64 x.fGain] 39)) from (Below.refl _ _).alloc (Nat.le_refl _) _)
  have HK0 := hide (Bk.born w 39 #[.int .i64 x.fSource, .int .i64 x.fFrom, .int .i64 x.fLength, .int .i64 x.fAt, .int .i64 x.fGain])
  go_enter Tryz.func164, Tryz.ntmps164
  by_cases h1 : inB x.fSource 0 5 = true
  rotate_left
  · have hq : inB x.fSource 0 5 = false := by simpa using h1
    go_wp2_with (go_at_call 103; refine (c_within _ _ _ _).mono ?_; rintro e w' ⟨rfl, rfl⟩)
    go_ret
    exact ⟨ret_bool (tf_no fun hh => by exact h1 hh.source).symm, HB0.out⟩
  by_cases h2 : inB x.fLength 1 4000 = true
  rotate_left
  · have hq : inB x.fLength 1 4000 = false := by simpa using h2
    go_wp2_with (go_at_call 103; refine (c_within _ _ _ _).mono ?_; rintro e w' ⟨rfl, rfl⟩)
    go_ret
    exact ⟨ret_bool (tf_no fun hh => by exact h2 hh.length).symm, HB0.out⟩
  have hb := inB_iff.1 h2
  by_cases h3 : inB x.fFrom 0 (4000 - x.fLength) = true
  rotate_left
  · have hq : inB x.fFrom 0 (4000 - x.fLength) = false := by simpa using h3
    go_wp2_with (go_at_call 103; refine (c_within _ _ _ _).mono ?_; rintro e w' ⟨rfl, rfl⟩)
    go_ret
    exact ⟨ret_bool (tf_no fun hh => by exact h3 hh.from_).symm, HB0.out⟩
  by_cases h4 : inB x.fAt 0 (4000 - x.fLength) = true
  rotate_left
  · have hq : inB x.fAt 0 (4000 - x.fLength) = false := by simpa using h4
    go_wp2_with (go_at_call 103; refine (c_within _ _ _ _).mono ?_; rintro e w' ⟨rfl, rfl⟩)
    go_ret
    exact ⟨ret_bool (tf_no fun hh => by exact h4 hh.at_).symm, HB0.out⟩
  by_cases h5 : Smp x.fGain
  rotate_left
  · have hq : decide (Smp x.fGain) = false := by simpa using h5
    go_wp2_with (first | (go_at_call 103; refine (c_within _ _ _ _).mono ?_; rintro e w' ⟨rfl, rfl⟩) | (go_at_call 171; refine (c_isSample _ _).mono ?_; rintro e w' ⟨rfl, rfl⟩))
    go_ret
    exact ⟨ret_bool (tf_no fun hh => by exact h5 hh.gain).symm, HB0.out⟩
  have hq : decide (Smp x.fGain) = true := by simpa using h5
  go_wp2_with (first | (go_at_call 103; refine (c_within _ _ _ _).mono ?_; rintro e w' ⟨rfl, rfl⟩) | (go_at_call 171; refine (c_isSample _ _).mono ?_; rintro e w' ⟨rfl, rfl⟩))
  go_ret
  exact ⟨ret_bool (by rw [tf_yes ⟨h1, h2, h3, h4, h5⟩]), HB0.out⟩
end Go.Proofs.YtgmgjhdckepmmaaGreat
end
section
namespace Go.Proofs.YtgmgjhdckepmmaaGreat
open Go.RowKit
set_option maxHeartbeats 2000000 in
set_option maxRecDepth 20000 in
theorem c_isEdit (x : GEdit) (cs : List Value) (w : World) (h : T.rds w x.fs cs) : Calls Tryz.prog 114 #[.agg cs.toArray] w fun e w' => e = .returned (.bool (tf (FieldsOk x))) ∧ Below w.heap.size w w' := by
  obtain rfl := GEdit.rd_open h
  clear h
  have HB0 := hide (show Below w.heap.size w (w.alloc (.cells #[.int .i64 x.fKind, .int .i64 x.fTrack, .int .i64 x.fClip, .int .i64 x.fValue, .int .i64 x.fNew.fSource, .int .i64 x.fNew.fFrom, .int .i64 x.fNew.fLength, .int .i64 x.fNew.fAt, .int .i64 x.fNew.fGain] 41)) from (Below.refl _ _).alloc (Nat.le_refl _) _)
  have HK0 := hide (Bk.born w 41 #[.int .i64 x.fKind, .int .i64 x.fTrack, .int .i64 x.fClip, .int .i64 x.fValue, .int .i64 x.fNew.fSource, .int .i64 x.fNew.fFrom, .int .i64 x.fNew.fLength, .int .i64 x.fNew.fAt, .int .i64 x.fNew.fGain])
  have heq : ∀ w, (Op.equalIn 10000 39 (.agg #[.int .i64 x.fNew.fSource, .int .i64 x.fNew.fFrom, .int .i64 x.fNew.fLength, .int .i64 x.fNew.fAt, .int .i64 x.fNew.fGain]) (.agg #[.int .i64 0, .int .i64 0, .int .i64 0, .int .i64 0, .int .i64 0])).run Tryz.prog w = .ok (decide (x.fNew = noClip)) w := eq_Clip 9998 x.fNew noClip
  have hgd := eqg_Clip
  have BN := hide (@fieldsB_new x); have BR := hide (@fieldsB_rem x); have BF := hide (@fieldsB_feed x); have BS := hide (@fieldsB_send x); have B0 := hide (@fieldsB_none x)
  generalize hne : decide (x.fNew = noClip) = ne at *; clear hne
  generalize hco : tf (ClipOk x.fNew) = co at *; have HCO := hide hco; clear hco
  go_enter Tryz.func114, Tryz.ntmps114
  by_cases k1 : x.fKind = 1
  · have q1 : (x.fKind == 1) = true := beqI_t k1
    have HE := hide (BN.out (.inl k1)); clear k1
    by_cases z : x.fValue = 0
    · have hz : (x.fValue == 0) = true := beqI_t z
      have HZ := hide (decide_eq_true z); clear z
      go_wp2_with (go_at_call 164; refine (c_isClip x.fNew _ _ GClip.rd_mk).mono ?_; rintro e w2 ⟨rfl, hb2⟩; rw [HCO.out]; have HB2 := hide (bthen HB0.out HB0.out.size hb2); clear hb2)
      go_ret
      exact ⟨ret_bool (by rw [HE.out, HZ.out]; rfl), HB2.out⟩
    · have hz : (x.fValue == 0) = false := beqI_f z
      have HZ := hide (decide_eq_false z); clear z
      go_wp2
      go_ret
      exact ⟨ret_bool (by rw [HE.out, HZ.out]; rfl), HB0.out⟩
  have q1 : (x.fKind == 1) = false := beqI_f k1
  by_cases k3 : x.fKind = 3
  · have q3 : (x.fKind == 3) = true := beqI_t k3
    have HE := hide (BN.out (.inr k3)); clear k3
    by_cases z : x.fValue = 0
    · have hz : (x.fValue == 0) = true := beqI_t z
      have HZ := hide (decide_eq_true z); clear z
      go_wp2_with (go_at_call 164; refine (c_isClip x.fNew _ _ GClip.rd_mk).mono ?_; rintro e w2 ⟨rfl, hb2⟩; rw [HCO.out]; have HB2 := hide (bthen HB0.out HB0.out.size hb2); clear hb2)
      go_ret
      exact ⟨ret_bool (by rw [HE.out, HZ.out]; rfl), HB2.out⟩
    · have hz : (x.fValue == 0) = false := beqI_f z
      have HZ := hide (decide_eq_false z); clear z
      go_wp2
      go_ret
      exact ⟨ret_bool (by rw [HE.out, HZ.out]; rfl), HB0.out⟩
  have q3 : (x.fKind == 3) = false := beqI_f k3
  by_cases k2 : x.fKind = 2
  · have q2 : (x.fKind == 2) = true := beqI_t k2
    have HE := hide (BR.out k2); clear k2
    by_cases z : x.fValue = 0
    · have hz : (x.fValue == 0) = true := beqI_t z
      have HZ := hide (decide_eq_true z); clear z
      go_wp2
      go_ret
      exact ⟨ret_bool (by rw [HE.out, HZ.out]; rfl), HB0.out⟩
    · have hz : (x.fValue == 0) = false := beqI_f z
      have HZ := hide (decide_eq_false z); clear z
      go_wp2
      go_ret
      exact ⟨ret_bool (by rw [HE.out, HZ.out]; rfl), HB0.out⟩
  have q2 : (x.fKind == 2) = false := beqI_f k2
  by_cases k4 : x.fKind = 4
  · have q4 : (x.fKind == 4) = true := beqI_t k4
    have HE := hide (BF.out k4); clear k4
    by_cases z : x.fClip = 0
    · have hz : (x.fClip == 0) = true := beqI_t z
      have HZ := hide (decide_eq_true z); clear z
      go_wp2
      go_ret
      exact ⟨ret_bool (by rw [HE.out, HZ.out]; rfl), HB0.out⟩
    · have hz : (x.fClip == 0) = false := beqI_f z
      have HZ := hide (decide_eq_false z); clear z
      go_wp2
      go_ret
      exact ⟨ret_bool (by rw [HE.out, HZ.out]; rfl), HB0.out⟩
  have q4 : (x.fKind == 4) = false := beqI_f k4
  by_cases k5 : x.fKind = 5
  · have q5 : (x.fKind == 5) = true := beqI_t k5
    have HE := hide (BS.out k5); clear k5
    go_wp2
    go_ret
    exact ⟨ret_bool HE.out.symm, HB0.out⟩
  have q5 : (x.fKind == 5) = false := beqI_f k5
  have HE := hide (B0.out (fun h => h.elim k1 k3) k2 k4 k5)
  clear k1 k2 k3 k4 k5
  go_wp2
  go_ret
  exact ⟨ret_bool HE.out.symm, HB0.out⟩
end Go.Proofs.YtgmgjhdckepmmaaGreat
end
