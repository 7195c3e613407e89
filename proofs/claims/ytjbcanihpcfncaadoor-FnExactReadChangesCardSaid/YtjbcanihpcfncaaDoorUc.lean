/- Contracts: lists of changes: laid, compared, valid. -/
import Derived.Test.YtjbcanihpcfncaaDoorUb
import Derived.Test.YtjbcanihpcfncaaDoorSh
import Derived.Deep.RegionHeld3
import Derived.Deep.RegionHeldLaw
namespace Go.Proofs.YtjbcanihpcfncaaDoor
open Go.RowKit
def chg0 : Chg := ⟨0, 0, ByteArray.empty⟩
theorem info_chg : (Tryd.prog.info? 35).map (fun i => (i.zero, i.size, i.bytes)) = some (some (.agg #[.int .i64 0, .int .i64 0, .string ByteArray.empty]), 3, 32) := by kernel_rfl
theorem c_eqCC (c : Chg) (w : World) :
    Calls Tryd.prog 18 #[.agg #[.int .i64 c.k, .int .i64 c.p, .string c.t], .agg #[.int .i64 c.k, .int .i64 c.p, .string c.t]] w fun e w' => e = .returned (.bool true) ∧ Below w.heap.size w w' :=
  (c_eqChange c c w).mono fun e w' ⟨h1, h2⟩ => ⟨by rw [h1]; simp, h2⟩
set_option maxHeartbeats 1000000 in
theorem c_eqCS (v1 v2 : Value) (cs : List Chg) (w : World) (hr1 : RdC w v1 cs) (hr2 : RdC w v2 cs) : Calls Tryd.prog 6 #[v1, v2] w fun e w' => e = .returned (.bool true) ∧ Below w.heap.size w w' := by
  obtain ⟨A1, cap1, rfl, hl1, hc1, hx1⟩ := hr1.openC
  obtain ⟨A2, cap2, rfl, hl2, hc2, hx2⟩ := hr2.openC
  have HX1 := hide hx1; have HX2 := hide hx2; clear hx1 hx2 hr1 hr2
  go_enter Tryd.func6, Tryd.ntmps6
  go_wp2
  go_loopw [5] (fun i wr => ∃ k : Nat, k ≤ cs.length ∧ i = .int .i64 k ∧ Below w.heap.size w wr) (fun i _ => cs.length - (intOf i).toNat)
  case atStart => exact ⟨0, Nat.zero_le _, rfl, Below.refl _ _⟩
  case round =>
    obtain ⟨k, hk, rfl, hb⟩ := hrel
    have HB := hide hb; clear hb
    by_cases hlt : k < cs.length
    · obtain ⟨b1, o1, rfl, hb1, e0, e1, e2⟩ := HX1.out k cs[k] (List.getElem?_eq_getElem hlt)
      obtain ⟨b2, o2, rfl, hb2, e3, e4, e5⟩ := HX2.out k cs[k] (List.getElem?_eq_getElem hlt)
      have d0 := (HB.out.cell hb1).trans e0; have d1 := (HB.out.cell hb1).trans e1; have d2 := (HB.out.cell hb1).trans e2
      have d3 := (HB.out.cell hb2).trans e3; have d4 := (HB.out.cell hb2).trans e4; have d5 := (HB.out.cell hb2).trans e5
      have hq1 : b1 < wr.heap.size := Nat.lt_of_lt_of_le hb1 HB.out.size
      have hq2 : b2 < wr.heap.size := Nat.lt_of_lt_of_le hb2 HB.out.size
      clear e0 e1 e2 e3 e4 e5
      generalize hg : cs[k] = c at *
      have HG := hide hg; clear hg
      go_wp2
      go_region_held3 (fun w' => w'.cell? ⟨b1, o1 + k * 3, none⟩ = some (.int .i64 c.k) ∧ w'.cell? ⟨b1, o1 + k * 3 + 1, none⟩ = some (.int .i64 c.p) ∧ w'.cell? ⟨b1, o1 + k * 3 + 2, none⟩ = some (.string c.t) ∧ w'.cell? ⟨b2, o2 + k * 3, none⟩ = some (.int .i64 c.k) ∧ w'.cell? ⟨b2, o2 + k * 3 + 1, none⟩ = some (.int .i64 c.p) ∧ w'.cell? ⟨b2, o2 + k * 3 + 2, none⟩ = some (.string c.t)) (first | go_keep | (refine ⟨(hb3.cell ?_).trans ?_, (hb3.cell ?_).trans ?_, (hb3.cell ?_).trans ?_, (hb3.cell ?_).trans ?_, (hb3.cell ?_).trans ?_, (hb3.cell ?_).trans ?_⟩ <;> first | assumption | (simp [*]; done) | (simp; omega))) (first | (go_at_call 18; refine (c_eqCC c _).mono ?_; rintro e w3 ⟨rfl, hb3⟩))
      have hb4 : Below w.heap.size w w3 := bthen HB.out HB.out.size (by first | exact hb3 | exact undrew hb3 | exact undrewN hb3)
      have HB4 := hide hb4; clear hb4 hb3
      go_wp2
      go_roundw
      case rel => exact ⟨k + 1, by omega, by go_num, (by first | exact HB4.out | exact undrew HB4.out | exact Below.drew HB4.out | exact Below.drew (undrew HB4.out) | exact undrewN HB4.out | exact below_drewN HB4.out _)⟩
      case measure => simp [intOf]; omega
    · go_wp2
      go_ret
      exact ⟨rfl, HB.out⟩
theorem idx_mem (c : UInt8) (l : List UInt8) : decide (0 ≤ Lib.indexByte l c) = decide (c ∈ l) := by
  have h : ∀ l, (0 ≤ Lib.indexByte l c) ↔ c ∈ l := by
    intro l
    induction l with
    | nil => simp [Lib.indexByte]
    | cons b t ih =>
      unfold Lib.indexByte
      by_cases hb : b = c
      · simp [hb]
      · have hb2 : (b == c) = false := by simp [hb]
        simp only [hb2, Bool.false_eq_true, if_false, List.mem_cons, Ne.symm hb, false_or]
        rw [← ih]
        have hlow : ∀ l, -1 ≤ Lib.indexByte l c := by
          intro l
          induction l with
          | nil => simp [Lib.indexByte]
          | cons x r ihr => unfold Lib.indexByte; split <;> (try split) <;> simp_all <;> omega
        have := hlow t
        by_cases h1 : Lib.indexByte t c = -1
        · simp [h1]
        · have h2 : (Lib.indexByte t c == -1) = false := by simp [h1]
          simp only [h2, Bool.false_eq_true, if_false]
          omega
  rw [decide_eq_decide]; exact h l
theorem c_noNl (s : ByteArray) (w : World) : Calls Tryd.prog 30 #[.string s, .string ⟨#[10]⟩] w fun e w' => e = .returned (.bool (decide ((10 : UInt8) ∈ s.data.toList))) ∧ w' = w :=
  (Tryd.strings_Contains_one s 10 w).mono fun e w' ⟨h1, h2⟩ => ⟨by rw [h1, idx_mem], h2⟩
theorem chgAt_zero {cs : List Chg} {c : Chg} (h : cs[0]? = some c) : chgAt cs 0 = chgOk c := by simp [chgAt, h]
theorem chgAt_succ {cs : List Chg} {j : Nat} {b c : Chg} (hb : cs[j]? = some b) (h : cs[j + 1]? = some c) : chgAt cs (j + 1) = (chgOk c && chgNext b c) := by simp [chgAt, h, hb]
theorem chgAt_bad {cs : List Chg} {k : Nat} {c : Chg} (h : cs[k]? = some c) (hc : chgOk c = false) : chgAt cs k = false := by simp [chgAt, h, hc]
theorem chgS_no {cs : List Chg} {k : Nat} (hk : k < cs.length) (h : chgAt cs k = false) : chgS cs = false := by simp [chgS, chgTo_no h hk]
