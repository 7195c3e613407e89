/- Plain laws on decimal numbers: what is written is read back. No program is named here. Contract: the text of a mark. Contracts: nested data marked cell by cell. Contracts: marks of nested data, and marks that are still there. Contracts: which nested data are the same. Contract: isTempos, program. -/
import Derived.Test.YteiflbhcehajkaaGreatDoorQAaExactDeskText
import Derived.Lib.ItoaNum
import Derived.Lib.ItoaLen
import Derived.Lib.ParseIntB
import Derived.Lib.ParseIntBCases
import Derived.Lib.ParseIntBTie
import Derived.Test.YteiflbhcehajkaaGreatDoorQAeExactDeskText
import Derived.Test.YteiflbhcehajkaaGreatDoorQAcExactDeskText
import Derived.Test.YteiflbhcehajkaaGreatDoorQApExactDeskText
import Derived.Test.YteiflbhcehajkaaGreatDoorQAgExactDeskText
import Derived.Laws.StructEq
import Derived.Test.YteiflbhcehajkaaGreatDoorQAuExactDeskText
import Derived.Test.YteiflbhcehajkaaGreatDoorQAjExactDeskText
set_option linter.unusedVariables false
set_option linter.unusedSimpArgs false
section
namespace Go.Proofs.YteiflbhcehajkaaGreatDoor
open Go.Lib
/-- A number in decimal. -/
def decL (n : Int) : List UInt8 := itoa n
def decS (n : Int) : ByteArray := mkS (decL n)
def digB (b : UInt8) : Bool := decide (48 ≤ b.toNat ∧ b.toNat ≤ 57)
def numV (a : Nat) (l : List UInt8) : Nat := l.foldl (fun a b => a * 10 + (b.toNat - 48)) a
theorem numV_nil (a : Nat) : numV a [] = a := rfl
theorem numV_cons (a : Nat) (b : UInt8) (t : List UInt8) : numV a (b :: t) = numV (a * 10 + (b.toNat - 48)) t := by unfold numV; rw [List.foldl_cons]
theorem numV_append (x y : List UInt8) (a : Nat) : numV a (x ++ y) = numV (numV a x) y := List.foldl_append
theorem numV_one (a : Nat) (b : UInt8) : numV a [b] = a * 10 + (b.toNat - 48) := by rw [numV_cons, numV_nil]
theorem dig_of {d : Nat} (h : d < 10) : (UInt8.ofNat (48 + d)).toNat = 48 + d := UInt8.toNat_ofNat_of_lt' (by show 48 + d < 256; omega)
theorem decDigits_small {u : Nat} (h : u < 10) : decDigits u = [UInt8.ofNat (48 + u)] := by rw [decDigits, dif_pos h]
theorem decDigits_big {u : Nat} (h : ¬ u < 10) : decDigits u = decDigits (u / 10) ++ [UInt8.ofNat (48 + u % 10)] := by rw [decDigits, dif_neg h]
theorem dec_digits (u : Nat) : (∀ b ∈ decDigits u, digB b = true) ∧ numV 0 (decDigits u) = u ∧ decDigits u ≠ [] := by
  induction u using Nat.strongRecOn with
  | _ u ih =>
    by_cases h : u < 10
    · rw [decDigits_small h]
      refine ⟨?_, ?_, by simp⟩
      · intro b hb
        simp only [List.mem_singleton] at hb
        subst hb
        unfold digB
        rw [dig_of h]
        simp; omega
      · rw [numV_one, dig_of h]; omega
    · obtain ⟨h1, h2, h3⟩ := ih (u / 10) (by omega)
      rw [decDigits_big h]
      refine ⟨?_, ?_, by simp⟩
      · intro b hb
        rcases List.mem_append.1 hb with hb | hb
        · exact h1 b hb
        · simp only [List.mem_singleton] at hb
          subst hb
          unfold digB
          rw [dig_of (Nat.mod_lt _ (by omega))]
          have := Nat.mod_lt u (show 10 > 0 by omega)
          simp; omega
      · rw [numV_append, h2]
        rw [numV_one, dig_of (Nat.mod_lt _ (by omega))]
        omega
/-- The digits that are there already, when a number is taken apart from behind. -/
def preD (u : Nat) : List UInt8 := if u = 0 then [] else decDigits u
theorem preD_step {u : Nat} (h : u ≠ 0) : preD u = preD (u / 10) ++ [UInt8.ofNat (48 + u % 10)] := by
  unfold preD
  rw [if_neg h]
  by_cases h1 : u < 10
  · rw [decDigits_small h1, if_pos (by omega)]
    have : u % 10 = u := by omega
    rw [this]; rfl
  · rw [decDigits_big h1, if_neg (by omega)]
theorem preD_len (k : Nat) : ∀ u, u < 10 ^ k → (preD u).length ≤ k := by
  induction k with
  | zero => intro u h; have : u = 0 := by simpa using h
            subst this; simp [preD]
  | succ k ih =>
    intro u h
    by_cases h0 : u = 0
    · subst h0; simp [preD]
    · rw [preD_step h0, List.length_append]
      have := ih (u / 10) (by rw [Nat.pow_succ] at h; omega)
      simp; omega
theorem decL_zero : decL 0 = [48] := by
  unfold decL itoa
  rw [if_neg (by omega), decDigits_small (by simp)]
  rfl
theorem decL_pos {n : Int} (h : 0 < n) : decL n = preD n.natAbs := by
  unfold decL itoa preD
  rw [if_neg (by omega), if_neg (by omega)]
  congr 1; omega
theorem length_decL {n : Int} (h0 : -9223372036854775808 ≤ n) (h1 : n ≤ 9223372036854775807) : (decL n).length ≤ 21 := itoa_length_le n h0 h1
end Go.Proofs.YteiflbhcehajkaaGreatDoor
end
section
namespace Go.Proofs.YteiflbhcehajkaaGreatDoor
open Go.RowKit
end Go.Proofs.YteiflbhcehajkaaGreatDoor
end
section
namespace Go.Proofs.YteiflbhcehajkaaGreatDoor
open Go.RowKit
end Go.Proofs.YteiflbhcehajkaaGreatDoor
end
section
namespace Go.Proofs.YteiflbhcehajkaaGreatDoor
open Go.RowKit
end Go.Proofs.YteiflbhcehajkaaGreatDoor
end
section
namespace Go.Proofs.YteiflbhcehajkaaGreatDoor
open Go.RowKit
theorem eq_Frac (d : Nat) (x y : GFrac) (w : World) : (Op.equalIn (d + 2) 64 (.agg #[.int .i64 x.fNum, .int .i64 x.fDen]) (.agg #[.int .i64 y.fNum, .int .i64 y.fDen])).run Tryz.prog w = .ok (decide (x = y)) w := by
  have u2 := Tryz.underlying2
  have a2 := Tryz.isAgg2
  have z2 := Tryz.sizeOf2
  have hS : Tryz.prog.underlying 64 = some (.struct (Tryz.prog.fieldsOf 64)) := by kernel_rfl
  rw [show d + 2 = (d + 1) + 1 from rfl, run_equalIn_agg w (d + 1) 64 _ _ hS (by kernel_rfl)]
  simp only [Program.fieldsOf, Tryz.underlying64]
  go_simp
  obtain ⟨x0, x1⟩ := x
  obtain ⟨y0, y1⟩ := y
  simp only [GFrac.mk.injEq]
  by_cases h0 : x0 = y0 <;> by_cases h1 : x1 = y1 <;> simp [h0, h1]
theorem eqg_Frac : Tryz.prog.eqGuardType Tryz.prog.depth 64 = false := by kernel_rfl
set_option maxHeartbeats 1000000 in
theorem c_same (v u : Value) (xs ys : List Int) (w : World) (hr1 : RdI w v xs) (hr2 : RdI w u ys) : Calls Tryz.prog 179 #[v, u] w fun e w' => e = .returned (.bool (decide (xs = ys))) ∧ Dr w w' := by
  obtain ⟨A1, cap1, rfl, hl1, hc1, hx1⟩ := hr1.open_
  obtain ⟨A2, cap2, rfl, hl2, hc2, hx2⟩ := hr2.open_
  have HX1 := hide hx1; have HX2 := hide hx2; clear hx1 hx2 hr1 hr2
  by_cases hll : xs.length = ys.length
  · have hb : ((xs.length : Int) != (ys.length : Int)) = false := by simp [hll]
    have HL := hide hll; clear hll
    go_enter Tryz.func179, Tryz.ntmps179
    go_wp2
    go_loopw [14] (fun i wr => ∃ k : Nat, k ≤ xs.length ∧ i = .int .i64 k ∧ xs.take k = ys.take k ∧ Dr w wr) (fun i _ => xs.length - (intOf i).toNat)
    case atStart => exact ⟨0, Nat.zero_le _, rfl, rfl, Dr.refl _⟩
    case round =>
      obtain ⟨k, hk, rfl, hs, nr, rfl⟩ := hrel
      have HS := hide hs; clear hs
      by_cases hlt : k < xs.length
      · have hlt2 : k < ys.length := by have := HL.out; omega
        obtain ⟨b1, off1, rfl, hb1, hcell1⟩ := HX1.out k xs[k] (List.getElem?_eq_getElem hlt)
        obtain ⟨b2, off2, rfl, hb2, hcell2⟩ := HX2.out k ys[k] (List.getElem?_eq_getElem hlt2)
        by_cases he : xs[k] = ys[k]
        · have hd : (xs[k] != ys[k]) = false := by simp [he]
          have HE := hide he; clear he
          go_wp2
          go_roundw
          case rel => exact ⟨k + 1, by omega, by go_num, takes_succ HS.out (List.getElem?_eq_getElem hlt) (by rw [HE.out]; exact List.getElem?_eq_getElem hlt2), (by repeat (first | exact Dr.refl _ | exact ⟨_, rfl⟩ | refine Dr.drewN ?_ _ | refine Dr.drew ?_))⟩
          case measure => simp [intOf]; omega
        · have hd : (xs[k] != ys[k]) = true := by simp [he]
          have HE := hide he; clear he
          go_wp2
          go_ret
          exact ⟨by simp [ne_at (List.getElem?_eq_getElem hlt) (List.getElem?_eq_getElem hlt2) HE.out], (by repeat (first | exact Dr.refl _ | exact ⟨_, rfl⟩ | refine Dr.drewN ?_ _ | refine Dr.drew ?_))⟩
      · go_wp2
        go_ret
        exact ⟨by simp [eq_of_takes (k := k) (by omega) HL.out HS.out], (by repeat (first | exact Dr.refl _ | exact ⟨_, rfl⟩ | refine Dr.drewN ?_ _ | refine Dr.drew ?_))⟩
  · have hb : ((xs.length : Int) != (ys.length : Int)) = true := by simp; omega
    have hne : xs ≠ ys := fun e => hll (by rw [e])
    have HN := hide hne; clear hll hne
    go_enter Tryz.func179, Tryz.ntmps179
    go_wp2
    go_ret
    exact ⟨by simp [HN.out], Dr.refl _⟩
set_option maxHeartbeats 1000000 in
theorem c_sameAll (v u : Value) (xs ys : List (List Int)) (w : World) (hr : T.rd w (T.sl 24 1 (xs.map (T.ints 2))) [v]) (ht : T.rd w (T.sl 24 1 (ys.map (T.ints 2))) [u]) :
    Calls Tryz.prog 178 #[v, u] w fun e w' => e = .returned (.bool (decide (xs = ys))) ∧ Dr w w' := by
  obtain ⟨A1, cap1, rfl, hl1, hc1, hx1⟩ := T.rd_open hr
  obtain ⟨A2, cap2, rfl, hl2, hc2, hx2⟩ := T.rd_open ht
  rw [List.length_map] at hl1 hl2 ⊢
  rw [List.length_map]
  have HX1 := hide hx1; have HX2 := hide hx2; clear hx1 hx2 hr ht
  by_cases hll : xs.length = ys.length
  · have hb : ((xs.length : Int) != (ys.length : Int)) = false := by simp [hll]
    have HL := hide hll; clear hll
    go_enter Tryz.func178, Tryz.ntmps178
    go_wp2
    go_loopw [14] (fun i wr => ∃ k : Nat, k ≤ xs.length ∧ i = .int .i64 k ∧ xs.take k = ys.take k ∧ Dr w wr) (fun i _ => xs.length - (intOf i).toNat)
    case atStart => exact ⟨0, Nat.zero_le _, rfl, rfl, Dr.refl _⟩
    case round =>
      obtain ⟨k, hk, rfl, hs, nr, rfl⟩ := hrel
      have HS := hide hs; clear hs
      by_cases hlt : k < xs.length
      · have hlt2 : k < ys.length := by have := HL.out; omega
        obtain ⟨b1, o1, cs1, rfl, hb1, hcs1, hcell1⟩ := HX1.out k (T.ints 2 xs[k]) (by rw [List.getElem?_map, List.getElem?_eq_getElem hlt]; rfl)
        obtain ⟨b2, o2, cs2, rfl, hb2, hcs2, hcell2⟩ := HX2.out k (T.ints 2 ys[k]) (by rw [List.getElem?_map, List.getElem?_eq_getElem hlt2]; rfl)
        have hg1 := List.getElem?_eq_getElem hlt
        have hg2 := List.getElem?_eq_getElem hlt2
        generalize xs[k] = x at *
        generalize ys[k] = y at *
        have HG1 := hide hg1; have HG2 := hide hg2; clear hg1 hg2
        obtain ⟨v3, rfl⟩ := T.rd_one hcs1
        obtain ⟨v4, rfl⟩ := T.rd_one hcs2
        have d0 := hcell1 0 v3 rfl
        have g0 := hcell2 0 v4 rfl
        rw [Nat.mul_one, Nat.add_zero] at d0 g0
        have R1 := hide (show RdI (w.drewN nr) v3 x from Rd.drewN (T.rd_ints.1 hcs1) nr); have R2 := hide (show RdI (w.drewN nr) v4 y from Rd.drewN (T.rd_ints.1 hcs2) nr)
        clear hcs1 hcs2 hcell1 hcell2
        by_cases he : x = y
        · have hde : decide (x = y) = true := decide_eq_true he
          have HE := hide he; clear he
          go_wp2_with (go_at_call 179; refine (c_same _ _ x y _ R1.out R2.out).mono ?_; rintro e w3 ⟨rfl, hd3⟩; rw [hde])
          go_roundw
          case rel => exact ⟨k + 1, by omega, by go_num, takes_succ HS.out HG1.out (by rw [HE.out]; exact HG2.out), (Dr.drewN (Dr.refl _) _).trans hd3⟩
          case measure => simp [intOf]; omega
        · have hde : decide (x = y) = false := decide_eq_false he
          have HE := hide he; clear he
          go_wp2_with (go_at_call 179; refine (c_same _ _ x y _ R1.out R2.out).mono ?_; rintro e w3 ⟨rfl, hd3⟩; rw [hde])
          go_ret
          exact ⟨by simp [ne_at HG1.out HG2.out HE.out], (Dr.drewN (Dr.refl _) _).trans hd3⟩
      · go_wp2
        go_ret
        exact ⟨by simp [eq_of_takes (k := k) (by omega) HL.out HS.out], (by repeat (first | exact Dr.refl _ | exact ⟨_, rfl⟩ | refine Dr.drewN ?_ _ | refine Dr.drew ?_))⟩
  · have hb : ((xs.length : Int) != (ys.length : Int)) = true := by simp; omega
    have hne : xs ≠ ys := fun e => hll (by rw [e])
    have HN := hide hne; clear hll hne
    go_enter Tryz.func178, Tryz.ntmps178
    go_wp2
    go_ret
    exact ⟨by simp [HN.out], Dr.refl _⟩
set_option maxHeartbeats 1000000 in
set_option maxRecDepth 20000 in
theorem c_iSameNode (a b : GNode) (v3 : Value) (u3 : Value) (w : World) (r3 : T.rd w (T.ints 2 a.fFrom) [v3]) (t3 : T.rd w (T.ints 2 b.fFrom) [u3]) :
    Calls Tryz.prog 180 #[.agg #[.int .i64 a.fKind, .int .i64 a.fA, .int .i64 a.fB, v3], .agg #[.int .i64 b.fKind, .int .i64 b.fA, .int .i64 b.fB, u3]] w fun e w' => e = .returned (.bool (decide (a = b))) ∧ Below w.heap.size w w' := by
  have hab : decide (a = b) = (decide (a.fKind = b.fKind) && (decide (a.fA = b.fA) && (decide (a.fB = b.fB) && (decide (a.fFrom = b.fFrom))))) := by
    obtain ⟨x0, x1, x2, x3⟩ := a
    obtain ⟨y0, y1, y2, y3⟩ := b
    rw [Bool.eq_iff_iff]
    simp only [GNode.mk.injEq, decide_eq_true_eq, Bool.and_eq_true]
    try (constructor <;> (intro h; simp [h]))
  have R3 := hide r3; have Q3 := hide t3
  obtain ⟨va3, vl3, vc3, rfl⟩ := T.rd_slice r3
  obtain ⟨ua3, ul3, uc3, rfl⟩ := T.rd_slice t3
  clear r3 t3
  have HAB := hide hab; clear hab
  have HB0 := hide (show Below w.heap.size w ((w.alloc (.cells #[.int .i64 a.fKind, .int .i64 a.fA, .int .i64 a.fB, (.slice va3 vl3 vc3)] 207)).alloc (.cells #[.int .i64 b.fKind, .int .i64 b.fA, .int .i64 b.fB, (.slice ua3 ul3 uc3)] 207)) from ((Below.refl _ _).alloc (Nat.le_refl _) _).alloc (by first | (simp; done) | (simp; omega) | omega) _)
  have HKA0 := hide ((Bk.born w 207 #[.int .i64 a.fKind, .int .i64 a.fA, .int .i64 a.fB, (.slice va3 vl3 vc3)]).alloc (.cells #[.int .i64 b.fKind, .int .i64 b.fA, .int .i64 b.fB, (.slice ua3 ul3 uc3)] 207))
  have HKB0 := hide (Bk.born1' w (.cells #[.int .i64 a.fKind, .int .i64 a.fA, .int .i64 a.fB, (.slice va3 vl3 vc3)] 207) 207 #[.int .i64 b.fKind, .int .i64 b.fA, .int .i64 b.fB, (.slice ua3 ul3 uc3)])
  by_cases h0 : a.fKind = b.fKind
  · have e0 : (a.fKind == b.fKind) = true := by simp [h0]
    have H0 := hide h0; clear h0
    by_cases h1 : a.fA = b.fA
    · have e1 : (a.fA == b.fA) = true := by simp [h1]
      have H1 := hide h1; clear h1
      by_cases h2 : a.fB = b.fB
      · have e2 : (a.fB == b.fB) = true := by simp [h2]
        have H2 := hide h2; clear h2
        by_cases h3 : a.fFrom = b.fFrom
        · have c3 : decide (a.fFrom = b.fFrom) = true := by simp [h3]
          have H3 := hide h3; clear h3
          go_enter Tryz.func180, Tryz.ntmps180
          go_wp2_with fail
          refine (c_same _ _ a.fFrom b.fFrom _ (T.rd_ints.1 (T.rd_below R3.out HB0.out)) (T.rd_ints.1 (T.rd_below Q3.out HB0.out))).mono ?_; rintro e w1 ⟨rfl, hd⟩; rw [c3]
          have hb : Below (((w.alloc (.cells #[.int .i64 a.fKind, .int .i64 a.fA, .int .i64 a.fB, (.slice va3 vl3 vc3)] 207)).alloc (.cells #[.int .i64 b.fKind, .int .i64 b.fA, .int .i64 b.fB, (.slice ua3 ul3 uc3)] 207))).heap.size ((w.alloc (.cells #[.int .i64 a.fKind, .int .i64 a.fA, .int .i64 a.fB, (.slice va3 vl3 vc3)] 207)).alloc (.cells #[.int .i64 b.fKind, .int .i64 b.fA, .int .i64 b.fB, (.slice ua3 ul3 uc3)] 207)) w1 := by first | exact hd.to_below _ | exact hd
          have HKA1 := hide (HKA0.out.below hb HKA0.out.lt); have HKB1 := hide (HKB0.out.below hb HKB0.out.lt); have HB1 := hide (bthen HB0.out HB0.out.size hb); clear hb hd
          have ka1 := HKA1.out.cell; have kb1 := HKB1.out.cell
          go_wp2
          go_ret
          exact ⟨ret_bool (by rw [HAB.out]; simp [H0.out, H1.out, H2.out, H3.out]), HB1.out⟩
        · have c3 : decide (a.fFrom = b.fFrom) = false := by simp [h3]
          have H3 := hide h3; clear h3
          go_enter Tryz.func180, Tryz.ntmps180
          go_wp2_with fail
          refine (c_same _ _ a.fFrom b.fFrom _ (T.rd_ints.1 (T.rd_below R3.out HB0.out)) (T.rd_ints.1 (T.rd_below Q3.out HB0.out))).mono ?_; rintro e w1 ⟨rfl, hd⟩; rw [c3]
          have hb : Below (((w.alloc (.cells #[.int .i64 a.fKind, .int .i64 a.fA, .int .i64 a.fB, (.slice va3 vl3 vc3)] 207)).alloc (.cells #[.int .i64 b.fKind, .int .i64 b.fA, .int .i64 b.fB, (.slice ua3 ul3 uc3)] 207))).heap.size ((w.alloc (.cells #[.int .i64 a.fKind, .int .i64 a.fA, .int .i64 a.fB, (.slice va3 vl3 vc3)] 207)).alloc (.cells #[.int .i64 b.fKind, .int .i64 b.fA, .int .i64 b.fB, (.slice ua3 ul3 uc3)] 207)) w1 := by first | exact hd.to_below _ | exact hd
          have HKA1 := hide (HKA0.out.below hb HKA0.out.lt); have HKB1 := hide (HKB0.out.below hb HKB0.out.lt); have HB1 := hide (bthen HB0.out HB0.out.size hb); clear hb hd
          have ka1 := HKA1.out.cell; have kb1 := HKB1.out.cell
          go_wp2
          go_ret
          exact ⟨ret_bool (by rw [HAB.out]; simp [H0.out, H1.out, H2.out, H3.out]), HB1.out⟩
      · have e2 : (a.fB == b.fB) = false := by simp [h2]
        have H2 := hide h2; clear h2
        go_enter Tryz.func180, Tryz.ntmps180
        go_wp2
        go_ret
        exact ⟨ret_bool (by rw [HAB.out]; simp [H0.out, H1.out, H2.out]), HB0.out⟩
    · have e1 : (a.fA == b.fA) = false := by simp [h1]
      have H1 := hide h1; clear h1
      go_enter Tryz.func180, Tryz.ntmps180
      go_wp2
      go_ret
      exact ⟨ret_bool (by rw [HAB.out]; simp [H0.out, H1.out]), HB0.out⟩
  · have e0 : (a.fKind == b.fKind) = false := by simp [h0]
    have H0 := hide h0; clear h0
    go_enter Tryz.func180, Tryz.ntmps180
    go_wp2
    go_ret
    exact ⟨ret_bool (by rw [HAB.out]; simp [H0.out]), HB0.out⟩
end Go.Proofs.YteiflbhcehajkaaGreatDoor
end
section
namespace Go.Proofs.YteiflbhcehajkaaGreatDoor
open Go.RowKit
theorem c_sizeTempo (A : Option Addr) (n c : Nat) (w : World) (h : n ≤ 9223372036854775807) : Calls Tryz.prog 45 #[.slice A n c] w fun e w' => e = .returned (.int .i64 (n : Int)) ∧ w = w' := by
  have hw : IntKind.i64.wrap (n : Int) = n := IntWalk.i64_in _ (by omega)
  go_enter Tryz.func45, Tryz.ntmps45
  go_wp2
  go_ret
  exact ⟨rfl, rfl⟩
def TempoE (l : List GTempo) (i : Nat) (x : GTempo) : Prop := (beatOk x.fBeat ∧ 1 ≤ x.fSamples ∧ x.fSamples ≤ 1000) ∧ ∀ p, 0 < i → l[i - 1]? = some p → cmpFr p.fBeat x.fBeat < 0
set_option maxHeartbeats 2000000 in
set_option maxRecDepth 20000 in
theorem c_isTempos (x : GTempoMap) (cs : List Value) (w : World) (hn : x.fTempos.length ≤ 1048576) (h : T.rds w x.fs cs) : Calls Tryz.prog 98 #[.agg cs.toArray] w fun e w' => e = .returned (.bool (tf (TemposOk x.fTempos))) ∧ Below w.heap.size w w' := by
  obtain ⟨v0, rfl, h0⟩ := GTempoMap.rd_open h
  clear h
  have R0 := hide h0; obtain ⟨va0, vc0, rfl, vl0, vm0, vx0⟩ := T.rd_openG h0
  have HX0 := hide vx0; clear vx0 h0
  have HB0 := hide (show Below w.heap.size w (w.alloc (.cells #[(.slice va0 x.fTempos.length vc0)] 63)) from (Below.refl _ _).alloc (Nat.le_refl _) _)
  have HK0 := hide (Bk.born w 63 #[(.slice va0 x.fTempos.length vc0)])
  by_cases h1 : inB (x.fTempos.length : Int) 1 8 = true
  rotate_left
  ·
    have b1 : inB (x.fTempos.length : Int) 1 8 = false := (by simpa using h1); have H1 := hide h1; clear h1
    go_enter Tryz.func98, Tryz.ntmps98
    go_wp2_with (first | (go_at_call 45; refine (c_sizeTempo _ _ _ _ (by omega)).mono ?_; rintro e w' ⟨rfl, rfl⟩) | (go_at_call 70; refine (c_within _ _ _ _).mono ?_; rintro e w' ⟨rfl, rfl⟩))
    go_ret
    exact ⟨ret_bool (tf_no (fun h => H1.out (inB_iff.2 ⟨by have := h.some_; omega, by have := h.few; omega⟩))).symm, HB0.out⟩
  have k1 := inB_iff.1 h1
  have hl0 : 0 < x.fTempos.length := by omega
  have hg0 := List.getElem?_eq_getElem hl0
  have HFI := hide (show (x.fTempos.getD 0 ⟨zeroFr, 0⟩) = x.fTempos[0] by rw [List.getD_eq_getElem?_getD, hg0]; rfl)
  obtain ⟨b0, of0, cs0, hA0, hb0, hcs0, hcell0⟩ := HX0.out 0 x.fTempos[0] hg0
  subst hA0
  generalize x.fTempos[0] = z at *; clear hg0
  have HBr := hide (Below.refl w.heap.size w)
  obtain rfl := GTempo.rd_open (show T.rds _ _ _ by simpa only [GTempo.t, T.rd] using hcs0)
  have p0 := (HBr.out.cell hb0).trans (hcell0 0 (.int .i64 z.fBeat.fNum) rfl)
  have p1 := (HBr.out.cell hb0).trans (hcell0 1 (.int .i64 z.fBeat.fDen) rfl)
  have p2 := (HBr.out.cell hb0).trans (hcell0 2 (.int .i64 z.fSamples) rfl)
  rw [show of0 + (0 * 3 + 0) = of0 by omega] at p0
  rw [show of0 + (0 * 3 + 1) = of0 + 1 by omega] at p1
  rw [show of0 + (0 * 3 + 2) = of0 + 2 by omega] at p2
  clear hcs0 hcell0
  have hgd := eqg_Frac
  by_cases h2 : z.fBeat = ⟨0, 1⟩
  rotate_left
  ·
    have e0 : ∀ w, (Op.equalIn 10000 64 (.agg #[.int .i64 z.fBeat.fNum, .int .i64 z.fBeat.fDen]) (.agg #[.int .i64 0, .int .i64 1])).run Tryz.prog w = .ok false w := by have := eq_Frac 9998 z.fBeat ⟨0, 1⟩; rw [decide_eq_false h2] at this; exact this
    have H2 := hide h2; clear h2
    go_enter Tryz.func98, Tryz.ntmps98
    go_wp2_with (first | (go_at_call 45; refine (c_sizeTempo _ _ _ _ (by omega)).mono ?_; rintro e w' ⟨rfl, rfl⟩) | (go_at_call 70; refine (c_within _ _ _ _).mono ?_; rintro e w' ⟨rfl, rfl⟩))
    go_ret
    exact ⟨ret_bool (tf_no (fun h => H2.out (by have := h.first; rw [HFI.out] at this; exact this))).symm, HB0.out⟩
  have e0 : ∀ w, (Op.equalIn 10000 64 (.agg #[.int .i64 z.fBeat.fNum, .int .i64 z.fBeat.fDen]) (.agg #[.int .i64 0, .int .i64 1])).run Tryz.prog w = .ok true w := by have := eq_Frac 9998 z.fBeat ⟨0, 1⟩; rw [decide_eq_true h2] at this; exact this
  have H2 := hide (show (x.fTempos.getD 0 ⟨zeroFr, 0⟩).fBeat = fr01 by rw [HFI.out]; exact h2); clear h2 HFI
  go_enter Tryz.func98, Tryz.ntmps98
  go_wp2_with (first | (go_at_call 45; refine (c_sizeTempo _ _ _ _ (by omega)).mono ?_; rintro e w' ⟨rfl, rfl⟩) | (go_at_call 70; refine (c_within _ _ _ _).mono ?_; rintro e w' ⟨rfl, rfl⟩))
  clear e0 hgd p0 p1 p2
  go_wp2
  go_loopw [26] (fun i wr => ∃ k : Nat, k ≤ x.fTempos.length ∧ i = .int .i64 k ∧ Upto x.fTempos (TempoE x.fTempos) k ∧ Below (w.alloc (.cells #[(.slice (some ⟨b0, of0, none⟩) x.fTempos.length vc0)] 63)).heap.size (w.alloc (.cells #[(.slice (some ⟨b0, of0, none⟩) x.fTempos.length vc0)] 63)) wr) (fun i _ => x.fTempos.length - (intOf i).toNat)
  case atStart => exact ⟨0, Nat.zero_le _, rfl, Upto.zero, Below.refl _ _⟩
  case round =>
    obtain ⟨k, hk, rfl, hs, hbw⟩ := hrel
    have HS := hide hs; have HW := hide hbw; have HB := hide (bthen HB0.out HB0.out.size hbw); have HK := hide (HK0.out.below hbw HK0.out.lt); clear hs hbw
    have ka := HK.out.cell; have la := HK.out.lt
    by_cases hlt : k < x.fTempos.length
    rotate_left
    ·
      have hall := HS.out.all (by omega)
      have HT := hide (tempos_iff (l := x.fTempos) (by omega) (by omega) H2.out hall)
      have HLO := hide (show ∀ y ∈ x.fTempos, fracOk y.fBeat ∧ 1 ≤ y.fSamples ∧ y.fSamples ≤ 1000 from fun y hy => by obtain ⟨i, hi⟩ := List.mem_iff_getElem?.1 hy; have := (hall i y hi).1; exact ⟨this.1.1, this.2⟩)
      clear hall HS
      go_wp2
      go_loopw [62] (fun i ws => ∃ m : Nat, m ≤ x.fTempos.length ∧ i = .int .i64 m ∧ Upto x.fTempos (fun _ y => (posF x.fTempos y.fBeat).2 = 0) m ∧ Below wr.heap.size wr ws) (fun i _ => x.fTempos.length - (intOf i).toNat)
      case atStart => exact ⟨0, Nat.zero_le _, rfl, Upto.zero, Below.refl _ _⟩
      case round =>
        obtain ⟨m, hm, rfl, hs, hbw⟩ := hrel
        have HS := hide hs; have HU := hide (bthen HB.out HB.out.size hbw); have HK2 := hide (HK.out.below hbw HK.out.lt); have HW2 := hide hbw; clear hs hbw ka la
        have ka := HK2.out.cell; have la := HK2.out.lt
        by_cases hlm : m < x.fTempos.length
        rotate_left
        ·
          have hall := hide (HT.out.2 (HS.out.all (by omega)))
          go_wp2
          go_ret
          exact ⟨ret_bool (tf_yes hall.out).symm, HU.out⟩
        have hgm := List.getElem?_eq_getElem hlm
        obtain ⟨b1, off, cs1, hA, hb1, hcs, hcell⟩ := HX0.out m x.fTempos[m] hgm
        obtain ⟨rfl, rfl⟩ : b0 = b1 ∧ of0 = off := by injection hA with hA; injection hA with e1 e2; exact ⟨e1, e2⟩
        clear hA
        generalize hyy : x.fTempos[m] = y at *; clear hyy
        have HGM := hide hgm; have HYO := hide (HLO.out y (List.mem_of_getElem? hgm)); clear hgm
        obtain rfl := GTempo.rd_open (show T.rds _ _ _ by simpa only [GTempo.t, T.rd] using hcs)
        have d0 := (HU.out.cell hb1).trans (hcell 0 (.int .i64 y.fBeat.fNum) rfl)
        have d1 := (HU.out.cell hb1).trans (hcell 1 (.int .i64 y.fBeat.fDen) rfl)
        have d2 := (HU.out.cell hb1).trans (hcell 2 (.int .i64 y.fSamples) rfl)
        rw [show of0 + (m * 3 + 0) = of0 + m * 3 by omega] at d0
        rw [show of0 + (m * 3 + 1) = of0 + m * 3 + 1 by omega] at d1
        rw [show of0 + (m * 3 + 2) = of0 + m * 3 + 2 by omega] at d2
        clear hcs hcell
        have hq1 := Nat.lt_of_lt_of_le hb1 HU.out.size
        obtain ⟨⟨pn, pd⟩, pc, hpp⟩ : ∃ f c, posF x.fTempos y.fBeat = (f, c) := ⟨_, _, rfl⟩
        have HPC := hide (show (posF x.fTempos y.fBeat).2 = pc by rw [hpp])
        have CP := hide (fun W hb => (by have := c_position x.fTempos (.slice (some ⟨b0, of0, none⟩) x.fTempos.length vc0) y.fBeat W (T.rd_below R0.out hb) HLO.out HYO.out.1 hn; rw [hpp] at this; exact this : Calls Tryz.prog 147 #[.agg #[.slice (some ⟨b0, of0, none⟩) x.fTempos.length vc0], .agg #[.int .i64 y.fBeat.fNum, .int .i64 y.fBeat.fDen]] W fun e w' => e = .returned (.tuple #[.agg #[.int .i64 pn, .int .i64 pd], .int .i64 pc]) ∧ Below W.heap.size W w'))
        clear hpp
        have HU2 := hide (HU.out.alloc HU.out.size (.cells #[.int .i64 y.fBeat.fNum, .int .i64 y.fBeat.fDen, .int .i64 y.fSamples] 107))
        by_cases h3 : pc = 0
        rotate_left
        ·
          have q3 : (pc != 0) = true := bneI_t h3; have H3 := hide h3; clear h3
          go_wp2_with (go_at_call 147; refine (CP.out _ HU2.out).mono ?_; rintro e w3 ⟨rfl, hb⟩; have HU3 := hide (bthen HU2.out HU2.out.size hb); have HW3 := hide (HW2.out.trans (show Below _ _ w3 from (((Below.refl _ _).alloc (Nat.le_refl _) (.cells #[.int .i64 y.fBeat.fNum, .int .i64 y.fBeat.fDen, .int .i64 y.fSamples] 107)).trans (hb.mono (by simp))).mono HW2.out.size)); clear hb)
          go_ret
          exact ⟨ret_bool (tf_no (fun h => H3.out (by rw [← HPC.out]; exact HT.out.1 h m y HGM.out))).symm, by have hb := HU3.out; have hz := hb.size; exact (by repeat (first | with_reducible exact Below.refl _ _ | with_reducible assumption | with_reducible refine Below.setCell ?_ (by first | omega | (simp; done) | (simp; omega)) _ | with_reducible refine Below.alloc ?_ (by first | omega | (simp; done) | (simp; omega)) _ | with_reducible refine Below.drew ?_ | with_reducible refine below_drewN ?_ _ | exact Below.refl _ _ | assumption | refine Below.drew ?_ | refine below_drewN ?_ _ | refine Below.alloc ?_ (by first | omega | (simp; done) | (simp; omega)) _ | refine Below.setCell ?_ (by first | omega | (simp; done) | (simp; omega)) _))⟩
        have q3 : (pc != 0) = false := bneI_f h3; have H3 := hide h3; clear h3
        go_wp2_with (go_at_call 147; refine (CP.out _ HU2.out).mono ?_; rintro e w3 ⟨rfl, hb⟩; have HU3 := hide (bthen HU2.out HU2.out.size hb); have HW3 := hide (HW2.out.trans (show Below _ _ w3 from (((Below.refl _ _).alloc (Nat.le_refl _) (.cells #[.int .i64 y.fBeat.fNum, .int .i64 y.fBeat.fDen, .int .i64 y.fSamples] 107)).trans (hb.mono (by simp))).mono HW2.out.size)); clear hb)
        go_roundw
        case rel => exact ⟨m + 1, by omega, by go_num, HS.out.step HGM.out (HPC.out.trans H3.out), by have hb := HW3.out; have hz := hb.size; exact (by repeat (first | with_reducible exact Below.refl _ _ | with_reducible assumption | with_reducible refine Below.setCell ?_ (by first | omega | (simp; done) | (simp; omega)) _ | with_reducible refine Below.alloc ?_ (by first | omega | (simp; done) | (simp; omega)) _ | with_reducible refine Below.drew ?_ | with_reducible refine below_drewN ?_ _ | exact Below.refl _ _ | assumption | refine Below.drew ?_ | refine below_drewN ?_ _ | refine Below.alloc ?_ (by first | omega | (simp; done) | (simp; omega)) _ | refine Below.setCell ?_ (by first | omega | (simp; done) | (simp; omega)) _))⟩
        case measure => simp [intOf]; omega
    have hgk := List.getElem?_eq_getElem hlt
    obtain ⟨b1, off, cs1, hA, hb1, hcs, hcell⟩ := HX0.out k x.fTempos[k] hgk
    obtain ⟨rfl, rfl⟩ : b0 = b1 ∧ of0 = off := by injection hA with hA; injection hA with e1 e2; exact ⟨e1, e2⟩
    clear hA
    generalize hyy : x.fTempos[k] = y at *; clear hyy
    have HG := hide hgk; clear hgk
    obtain rfl := GTempo.rd_open (show T.rds _ _ _ by simpa only [GTempo.t, T.rd] using hcs)
    have d0 := (HB.out.cell hb1).trans (hcell 0 (.int .i64 y.fBeat.fNum) rfl)
    have d1 := (HB.out.cell hb1).trans (hcell 1 (.int .i64 y.fBeat.fDen) rfl)
    have d2 := (HB.out.cell hb1).trans (hcell 2 (.int .i64 y.fSamples) rfl)
    rw [show of0 + (k * 3 + 0) = of0 + k * 3 by omega] at d0
    rw [show of0 + (k * 3 + 1) = of0 + k * 3 + 1 by omega] at d1
    rw [show of0 + (k * 3 + 2) = of0 + k * 3 + 2 by omega] at d2
    clear hcs hcell
    have hq1 := Nat.lt_of_lt_of_le hb1 HB.out.size
    by_cases h2 : beatOk y.fBeat
    rotate_left
    ·
      have q1 := tf_no h2; have N_ := hide h2; clear h2
      have hWb : Below wr.heap.size wr (wr.alloc (.cells #[.int .i64 y.fBeat.fNum, .int .i64 y.fBeat.fDen, .int .i64 y.fSamples] 107)) := (Below.refl _ _).alloc (Nat.le_refl _) _
      have hNb := Bk.born wr 107 #[.int .i64 y.fBeat.fNum, .int .i64 y.fBeat.fDen, .int .i64 y.fSamples]
      go_wp2
      generalize wr.alloc (.cells #[.int .i64 y.fBeat.fNum, .int .i64 y.fBeat.fDen, .int .i64 y.fSamples] 107) = W at *
      have HWb := hide hWb; have HNb := hide hNb; have HKW := hide (HK.out.below hWb HK.out.lt)
      have g0 := bel_bk hNb; have g1 := bel_bk HKW.out
      clear hWb hNb
      refine wp_region_bel (by kernel_rfl) (by kernel_rfl) ?_
      repeat (first | go_big_quiet_skip | (go_big_quiet_want; go_big_quiet_op; first | go_big_quiet_on | (apply Exists.intro; refine ⟨fun _ => ?_, ?_⟩; (· (first | (go_at_call 145; exact Calls.quiet_bel ((c_isBeat y.fBeat _ _ GFrac.rd_mk).mono (fun e w' h => by (first | rw [q1] at h | skip); exact h))))); go_big_quiet_on)))
      refine wpQuiet_nil ?_
      rintro w9 ⟨uu, rfl⟩
      have hb9 := bel_below W uu
      generalize bel W uu = w9 at *
      have HC := hide (bthen HWb.out HWb.out.size hb9); have HC2 := hide (bthen HB.out HB.out.size HC.out); have HC3 := hide (bthen HW.out HW.out.size HC.out)
      clear hb9 g0 g1
      go_wp2
      go_ret
      exact ⟨ret_bool (tf_no (fun h => by have := h.each k y HG.out; exact N_.out this.1.1)).symm, HC2.out⟩
    have q1 := tf_yes h2; have HBO := hide h2; clear h2
    by_cases h3 : inB y.fSamples 1 1000 = true
    rotate_left
    ·
      have q2 : inB y.fSamples 1 1000 = false := (by simpa using h3); have N_ := hide h3; clear h3
      have hWb : Below wr.heap.size wr (wr.alloc (.cells #[.int .i64 y.fBeat.fNum, .int .i64 y.fBeat.fDen, .int .i64 y.fSamples] 107)) := (Below.refl _ _).alloc (Nat.le_refl _) _
      have hNb := Bk.born wr 107 #[.int .i64 y.fBeat.fNum, .int .i64 y.fBeat.fDen, .int .i64 y.fSamples]
      go_wp2
      generalize wr.alloc (.cells #[.int .i64 y.fBeat.fNum, .int .i64 y.fBeat.fDen, .int .i64 y.fSamples] 107) = W at *
      have HWb := hide hWb; have HNb := hide hNb; have HKW := hide (HK.out.below hWb HK.out.lt)
      have g0 := bel_bk hNb; have g1 := bel_bk HKW.out
      clear hWb hNb
      refine wp_region_bel (by kernel_rfl) (by kernel_rfl) ?_
      repeat (first | go_big_quiet_skip | (go_big_quiet_want; go_big_quiet_op; first | go_big_quiet_on | (apply Exists.intro; refine ⟨fun _ => ?_, ?_⟩; (· (first | (go_at_call 145; exact Calls.quiet_bel ((c_isBeat y.fBeat _ _ GFrac.rd_mk).mono (fun e w' h => by (first | rw [q1] at h | skip); exact h))) | (go_at_call 70; exact Calls.quiet_bel_same ((c_within _ _ _ _).mono (fun e w' h => by (first | rw [q2] at h | skip); exact h))))); go_big_quiet_on)))
      refine wpQuiet_nil ?_
      rintro w9 ⟨uu, rfl⟩
      have hb9 := bel_below W uu
      generalize bel W uu = w9 at *
      have HC := hide (bthen HWb.out HWb.out.size hb9); have HC2 := hide (bthen HB.out HB.out.size HC.out); have HC3 := hide (bthen HW.out HW.out.size HC.out)
      clear hb9 g0 g1
      go_wp2
      go_ret
      exact ⟨ret_bool (tf_no (fun h => by have := h.each k y HG.out; exact N_.out (inB_iff.2 this.1.2))).symm, HC2.out⟩
    have q2 := h3; have HSA := hide (inB_iff.1 h3); clear h3
    by_cases hk0 : k = 0
    ·
      have g_ : decide (0 < k) = false := decide_eq_false (by omega)
      have K0 := hide hk0; clear hk0
      have hWb : Below wr.heap.size wr (wr.alloc (.cells #[.int .i64 y.fBeat.fNum, .int .i64 y.fBeat.fDen, .int .i64 y.fSamples] 107)) := (Below.refl _ _).alloc (Nat.le_refl _) _
      have hNb := Bk.born wr 107 #[.int .i64 y.fBeat.fNum, .int .i64 y.fBeat.fDen, .int .i64 y.fSamples]
      go_wp2
      generalize wr.alloc (.cells #[.int .i64 y.fBeat.fNum, .int .i64 y.fBeat.fDen, .int .i64 y.fSamples] 107) = W at *
      have HWb := hide hWb; have HNb := hide hNb; have HKW := hide (HK.out.below hWb HK.out.lt)
      have g0 := bel_bk hNb; have g1 := bel_bk HKW.out
      clear hWb hNb
      refine wp_region_bel (by kernel_rfl) (by kernel_rfl) ?_
      repeat (first | go_big_quiet_skip | (go_big_quiet_want; go_big_quiet_op; first | go_big_quiet_on | (apply Exists.intro; refine ⟨fun _ => ?_, ?_⟩; (· (first | (go_at_call 145; exact Calls.quiet_bel ((c_isBeat y.fBeat _ _ GFrac.rd_mk).mono (fun e w' h => by (first | rw [q1] at h | skip); exact h))) | (go_at_call 70; exact Calls.quiet_bel_same ((c_within _ _ _ _).mono (fun e w' h => by (first | rw [q2] at h | skip); exact h))))); go_big_quiet_on)))
      refine wpQuiet_nil ?_
      rintro w9 ⟨uu, rfl⟩
      have hb9 := bel_below W uu
      generalize bel W uu = w9 at *
      have HC := hide (bthen HWb.out HWb.out.size hb9); have HC2 := hide (bthen HB.out HB.out.size HC.out); have HC3 := hide (bthen HW.out HW.out.size HC.out)
      clear hb9 g0 g1
      go_wp2
      go_roundw
      case rel => exact ⟨k + 1, by omega, by go_num, HS.out.step HG.out (⟨⟨HBO.out, HSA.out⟩, fun p h _ => by have := K0.out; omega⟩), HC3.out⟩
      case measure => simp [intOf]; omega
    obtain ⟨j, rfl⟩ : ∃ j, k = j + 1 := ⟨k - 1, by omega⟩
    clear hk0
    have hwj : IntKind.i64.wrap (((j + 1 : Nat) : Int) - 1) = (j : Int) := by rw [show ((j + 1 : Nat) : Int) - 1 = (j : Int) by omega]; exact IntWalk.i64_in _ (by omega)
    have hgj := List.getElem?_eq_getElem (show j < x.fTempos.length by omega)
    obtain ⟨b2, off2, cs2, hA2, hb2, hcs2, hcell2⟩ := HX0.out j x.fTempos[j] hgj
    obtain ⟨rfl, rfl⟩ : b0 = b2 ∧ of0 = off2 := by injection hA2 with hA2; injection hA2 with e1 e2; exact ⟨e1, e2⟩
    clear hA2
    generalize hzz : x.fTempos[j] = v at *; clear hzz
    have HV := hide ((HS.out _ _ (by omega) hgj).1.1.1); have HGJ := hide hgj; clear hgj
    obtain rfl := GTempo.rd_open (show T.rds _ _ _ by simpa only [GTempo.t, T.rd] using hcs2)
    have e0 := (HB.out.cell hb2).trans (hcell2 0 (.int .i64 v.fBeat.fNum) rfl)
    have e1 := (HB.out.cell hb2).trans (hcell2 1 (.int .i64 v.fBeat.fDen) rfl)
    have e2 := (HB.out.cell hb2).trans (hcell2 2 (.int .i64 v.fSamples) rfl)
    rw [show of0 + (j * 3 + 0) = of0 + j * 3 by omega] at e0
    rw [show of0 + (j * 3 + 1) = of0 + j * 3 + 1 by omega] at e1
    rw [show of0 + (j * 3 + 2) = of0 + j * 3 + 2 by omega] at e2
    clear hcs2 hcell2
    have i0 : (j : Int) < (x.fTempos.length : Int) := by omega
    obtain ⟨cc, hcc⟩ : ∃ cc, cmpFr v.fBeat y.fBeat = cc := ⟨_, rfl⟩
    have CP := hide (fun W => (by have := c_compare v.fBeat y.fBeat W HV.out HBO.out.1; rw [hcc] at this; exact this : Calls Tryz.prog 146 #[.agg #[.int .i64 v.fBeat.fNum, .int .i64 v.fBeat.fDen], .agg #[.int .i64 y.fBeat.fNum, .int .i64 y.fBeat.fDen]] W fun e w' => e = .returned (.int .i64 cc) ∧ Below W.heap.size W w'))
    have HCK := hide hcc; clear hcc
    by_cases h4 : cc < 0
    rotate_left
    ·
      have k3 : decide ((0 : Int) ≤ cc) = true := decide_eq_true (by omega)
      have H3 := hide h4; clear h4
      have hWb : Below wr.heap.size wr (wr.alloc (.cells #[.int .i64 y.fBeat.fNum, .int .i64 y.fBeat.fDen, .int .i64 y.fSamples] 107)) := (Below.refl _ _).alloc (Nat.le_refl _) _
      have hNb := Bk.born wr 107 #[.int .i64 y.fBeat.fNum, .int .i64 y.fBeat.fDen, .int .i64 y.fSamples]
      go_wp2
      generalize wr.alloc (.cells #[.int .i64 y.fBeat.fNum, .int .i64 y.fBeat.fDen, .int .i64 y.fSamples] 107) = W at *
      have HWb := hide hWb; have HNb := hide hNb; have HKW := hide (HK.out.below hWb HK.out.lt)
      have g0 := bel_bk hNb; have g1 := bel_bk HKW.out
      have g2 := bel_cell ((hWb.cell (World.block_lt_of_cell? wr _ e0)).trans e0)
      have g3 := bel_cell ((hWb.cell (World.block_lt_of_cell? wr _ e1)).trans e1)
      clear hWb hNb
      refine wp_region_bel (by kernel_rfl) (by kernel_rfl) ?_
      repeat (first | go_big_quiet_skip | (go_big_quiet_want; go_big_quiet_op; first | go_big_quiet_on | (apply Exists.intro; refine ⟨fun _ => ?_, ?_⟩; (· (first | (go_at_call 145; exact Calls.quiet_bel ((c_isBeat y.fBeat _ _ GFrac.rd_mk).mono (fun e w' h => by (first | rw [q1] at h | skip); exact h))) | (go_at_call 70; exact Calls.quiet_bel_same ((c_within _ _ _ _).mono (fun e w' h => by (first | rw [q2] at h | skip); exact h))) | (go_at_call 146; exact Calls.quiet_bel (CP.out _)))); go_big_quiet_on)))
      refine wpQuiet_nil ?_
      rintro w9 ⟨uu, rfl⟩
      have hb9 := bel_below W uu
      generalize bel W uu = w9 at *
      have HC := hide (bthen HWb.out HWb.out.size hb9); have HC2 := hide (bthen HB.out HB.out.size HC.out); have HC3 := hide (bthen HW.out HW.out.size HC.out)
      clear hb9 g0 g1 g2 g3
      go_wp2
      go_ret
      exact ⟨ret_bool (tf_no (fun h => by have a := H3.out; have b := (h.each (j + 1) y HG.out).2 v (by omega) HGJ.out; rw [HCK.out] at b; omega)).symm, HC2.out⟩
    have k3 : decide ((0 : Int) ≤ cc) = false := decide_eq_false (by omega)
    have H3 := hide h4; clear h4
    have hWb : Below wr.heap.size wr (wr.alloc (.cells #[.int .i64 y.fBeat.fNum, .int .i64 y.fBeat.fDen, .int .i64 y.fSamples] 107)) := (Below.refl _ _).alloc (Nat.le_refl _) _
    have hNb := Bk.born wr 107 #[.int .i64 y.fBeat.fNum, .int .i64 y.fBeat.fDen, .int .i64 y.fSamples]
    go_wp2
    generalize wr.alloc (.cells #[.int .i64 y.fBeat.fNum, .int .i64 y.fBeat.fDen, .int .i64 y.fSamples] 107) = W at *
    have HWb := hide hWb; have HNb := hide hNb; have HKW := hide (HK.out.below hWb HK.out.lt)
    have g0 := bel_bk hNb; have g1 := bel_bk HKW.out
    have g2 := bel_cell ((hWb.cell (World.block_lt_of_cell? wr _ e0)).trans e0)
    have g3 := bel_cell ((hWb.cell (World.block_lt_of_cell? wr _ e1)).trans e1)
    clear hWb hNb
    refine wp_region_bel (by kernel_rfl) (by kernel_rfl) ?_
    repeat (first | go_big_quiet_skip | (go_big_quiet_want; go_big_quiet_op; first | go_big_quiet_on | (apply Exists.intro; refine ⟨fun _ => ?_, ?_⟩; (· (first | (go_at_call 145; exact Calls.quiet_bel ((c_isBeat y.fBeat _ _ GFrac.rd_mk).mono (fun e w' h => by (first | rw [q1] at h | skip); exact h))) | (go_at_call 70; exact Calls.quiet_bel_same ((c_within _ _ _ _).mono (fun e w' h => by (first | rw [q2] at h | skip); exact h))) | (go_at_call 146; exact Calls.quiet_bel (CP.out _)))); go_big_quiet_on)))
    refine wpQuiet_nil ?_
    rintro w9 ⟨uu, rfl⟩
    have hb9 := bel_below W uu
    generalize bel W uu = w9 at *
    have HC := hide (bthen HWb.out HWb.out.size hb9); have HC2 := hide (bthen HB.out HB.out.size HC.out); have HC3 := hide (bthen HW.out HW.out.size HC.out)
    clear hb9 g0 g1 g2 g3
    go_wp2
    go_roundw
    case rel => exact ⟨j + 2, by omega, by go_num, HS.out.step HG.out ⟨⟨HBO.out, HSA.out⟩, fun p _ hp => by rw [Nat.add_sub_cancel, HGJ.out] at hp; injection hp with hp; rw [← hp, HCK.out]; exact H3.out⟩, HC3.out⟩
    case measure => simp [intOf]; omega
end Go.Proofs.YteiflbhcehajkaaGreatDoor
end
