/- Contracts: the text of a change, by both sides. -/
import Derived.Test.YtjbcanihpcfncaaDoorYa
import Derived.Test.YtjbcanihpcfncaaDoorYe
import Derived.Test.YtjbcanihpcfncaaDoorUe
import Derived.Test.YtjbcanihpcfncaaDoorXs
import Derived.Test.YtjbcanihpcfncaaDoorTb
import Derived.Test.YtjbcanihpcfncaaDoorUj
import Derived.Deep.RegionHeld
namespace Go.Proofs.YtjbcanihpcfncaaDoor
open Go.RowKit
theorem app_mkS (l : List UInt8) (x : ByteArray) : mkS l ++ x = mkS (l ++ x.data.toList) := by
  have : x = mkS x.data.toList := (mkS_data x).symm
  conv => lhs; rw [this]
  exact mkS_append _ _
theorem decS_bd {n : Int} (h0 : 0 ≤ n) (h1 : n ≤ 1000000) : (decS n).size ≤ 21 := by
  unfold decS; rw [size_mkS]; exact length_decL (by omega) (by omega)
theorem txt_join (c : Chg) (sg : ByteArray) (hs : sg = mkS [sgnC c]) : ((((sg ++ decS c.p) ++ (⟨#[32]⟩ : ByteArray)) ++ c.t) ++ (⟨#[10]⟩ : ByteArray)) = mkS (txtC c) := by
  subst hs
  unfold decS
  rw [mkS_append, app_mkS, app_mkS, app_mkS]
  rfl
set_option maxHeartbeats 2000000 in
set_option maxRecDepth 20000 in
theorem c_l32Change (b o : Nat) (c : Chg) (w : World) (d0 : w.cell? ⟨b, o, none⟩ = some (.int .i64 c.k)) (d1 : w.cell? ⟨b, o + 1, none⟩ = some (.int .i64 c.p)) (d2 : w.cell? ⟨b, o + 2, none⟩ = some (.string c.t)) (hb : b < w.heap.size)
    (hk : c.k = 1 ∨ c.k = 2) (hp0 : 0 ≤ c.p) (hp2 : c.p ≤ 1000000) (hz : c.t.size ≤ 1048576) :
    Calls Tryd.prog 12 #[.pointer (some ⟨b, o, none⟩)] w fun e w' => e = .returned (.string (mkS (txtC c))) ∧ Below w.heap.size w w' := by
  obtain ⟨n, hn⟩ : ∃ n : Nat, c.p = (n : Int) := ⟨c.p.toNat, by omega⟩
  have hds := decS_bd hp0 (by omega)
  have HJ : Sec (∀ sg : ByteArray, sg = mkS [sgnC c] → ((((sg ++ decS c.p) ++ (⟨#[32]⟩ : ByteArray)) ++ c.t) ++ (⟨#[10]⟩ : ByteArray)) = mkS (txtC c)) := hide (fun sg h => txt_join c sg h)
  rw [hn] at hds HJ d1
  have h32 : (⟨#[32]⟩ : ByteArray).size = 1 := rfl
  have h10 : (⟨#[10]⟩ : ByteArray).size = 1 := rfl
  have HDEC := hide (c_l01Dec n · (by omega))
  generalize hD : decS (n : Int) = D at *
  generalize hTT : mkS (txtC c) = T at *
  have hN := hide hn
  clear hD hTT hn
  rcases hk with hk | hk
  · have hsg : (⟨#[45]⟩ : ByteArray) = mkS [sgnC c] := by unfold sgnC; rw [hk]; rfl
    have HR := hide (HJ.out _ hsg)
    have h45 : (⟨#[45]⟩ : ByteArray).size = 1 := rfl
    have z1 : ((⟨#[45]⟩ : ByteArray) ++ D).size ≤ 22 := by rw [ByteArray.size_append, h45]; omega
    have z2 : (((⟨#[45]⟩ : ByteArray) ++ D) ++ (⟨#[32]⟩ : ByteArray)).size ≤ 23 := by rw [ByteArray.size_append, h32]; omega
    have z3 : ((((⟨#[45]⟩ : ByteArray) ++ D) ++ (⟨#[32]⟩ : ByteArray)) ++ c.t).size ≤ 1048599 := by rw [ByteArray.size_append]; omega
    clear hsg
    go_enter Tryd.func12, Tryd.ntmps12
    go_wp2
    go_region_held (fun w' => w'.cell? ⟨b, o + 1, none⟩ = some (.int .i64 (n : Int)) ∧ w'.cell? ⟨b, o + 2, none⟩ = some (.string c.t)) (first | go_keep | (refine ⟨(hb3.cell ?_).trans ?_, (hb3.cell ?_).trans ?_⟩ <;> first | assumption | (simp [*]; done) | (simp; omega))) (first | (go_at_call 21; refine (HDEC.out _).mono ?_; rintro e w3 ⟨rfl, hb3⟩))
    have HB3 := hide hb3; clear hb3
    go_wp2
    go_ret
    exact ⟨ret_str (by rw [← HR.out]), (by first | exact HB3.out | exact undrew HB3.out | exact Below.drew HB3.out | exact Below.drew (undrew HB3.out) | exact undrewN HB3.out | exact below_drewN HB3.out _)⟩
  · have hsg : (⟨#[43]⟩ : ByteArray) = mkS [sgnC c] := by unfold sgnC; rw [hk]; rfl
    have HR := hide (HJ.out _ hsg)
    have h45 : (⟨#[43]⟩ : ByteArray).size = 1 := rfl
    have z1 : ((⟨#[43]⟩ : ByteArray) ++ D).size ≤ 22 := by rw [ByteArray.size_append, h45]; omega
    have z2 : (((⟨#[43]⟩ : ByteArray) ++ D) ++ (⟨#[32]⟩ : ByteArray)).size ≤ 23 := by rw [ByteArray.size_append, h32]; omega
    have z3 : ((((⟨#[43]⟩ : ByteArray) ++ D) ++ (⟨#[32]⟩ : ByteArray)) ++ c.t).size ≤ 1048599 := by rw [ByteArray.size_append]; omega
    clear hsg
    go_enter Tryd.func12, Tryd.ntmps12
    go_wp2
    go_region_held (fun w' => w'.cell? ⟨b, o + 1, none⟩ = some (.int .i64 (n : Int)) ∧ w'.cell? ⟨b, o + 2, none⟩ = some (.string c.t)) (first | go_keep | (refine ⟨(hb3.cell ?_).trans ?_, (hb3.cell ?_).trans ?_⟩ <;> first | assumption | (simp [*]; done) | (simp; omega))) (first | (go_at_call 21; refine (HDEC.out _).mono ?_; rintro e w3 ⟨rfl, hb3⟩))
    have HB3 := hide hb3; clear hb3
    go_wp2
    go_ret
    exact ⟨ret_str (by rw [← HR.out]), (by first | exact HB3.out | exact undrew HB3.out | exact Below.drew HB3.out | exact Below.drew (undrew HB3.out) | exact undrewN HB3.out | exact below_drewN HB3.out _)⟩
set_option maxHeartbeats 4000000 in
set_option maxRecDepth 20000 in
theorem c_changesText (v : Value) (cs : List Chg) (w : World) (hr : RdC w v cs) (ht : TB w) (hv : chgS cs = true) (hz : ∀ c ∈ cs, c.t.size ≤ 1048576) :
    Calls Tryd.prog 17 #[v] w fun e w' => e = .returned (.string (mkS (txtCs cs))) ∧ Below w.heap.size w w' := by
  have hbd := chgS_bd hv
  have hcl := hbd.1
  have HBD := hide hbd.2; have HZ := hide hz; have HTB := hide ht
  obtain ⟨A, cap, rfl, hl, hc, hx⟩ := hr.openC
  have HX := hide hx; clear hx hr hbd hz ht hv
  generalize hTT : mkS (txtCs cs) = T
  have HTT := hide hTT; clear hTT
  go_enter Tryd.func17, Tryd.ntmps17
  go_wp2
  go_loopw [3, 9] (fun o iv wr => ∃ (k : Nat) (X : ByteArray), k ≤ cs.length ∧ iv = .int .i64 (k : Int) ∧ o = .string X ∧ X = mkS (txtCs (cs.take k)) ∧ X.size ≤ k * 1048600 ∧ Below w.heap.size w wr) (fun _ iv _ => cs.length - (intOf iv).toNat)
  case atStart => exact ⟨0, mkS [], Nat.zero_le _, rfl, rfl, rfl, by rw [size_mkS]; simp, Below.refl _ _⟩
  case round =>
    obtain ⟨k, X, hk, rfl, rfl, hX, hXs, hb⟩ := hrel
    have HX2 := hide hX; have HB := hide hb; clear hX hb
    by_cases hlt : k < cs.length
    · have hgc := List.getElem?_eq_getElem hlt
      obtain ⟨hkk, hp0, hp2⟩ := HBD.out k _ hgc
      have hcz := HZ.out cs[k] (List.getElem_mem hlt)
      obtain ⟨b, off, rfl, hbw, e0, e1, e2⟩ := HX.out k _ hgc
      have d0 := (HB.out.cell hbw).trans e0
      have d1 := (HB.out.cell hbw).trans e1
      have d2 := (HB.out.cell hbw).trans e2
      clear e0 e1 e2
      generalize hg : cs[k] = c at *
      have HG := hide hgc; clear hg hgc
      obtain ⟨n, hn⟩ : ∃ n : Nat, c.p = (n : Int) := ⟨c.p.toNat, by omega⟩
      have hds := decS_bd hp0 (by omega)
      have HJ : Sec (∀ sg : ByteArray, sg = mkS [sgnC c] → ((((sg ++ decS c.p) ++ (⟨#[32]⟩ : ByteArray)) ++ c.t) ++ (⟨#[10]⟩ : ByteArray)) = mkS (txtC c)) := hide (fun sg h => txt_join c sg h)
      rw [hn] at hds HJ d1
      have h32 : (⟨#[32]⟩ : ByteArray).size = 1 := rfl
      have h10 : (⟨#[10]⟩ : ByteArray).size = 1 := rfl
      have HDEC := hide (fun W h => c_iDec (n : Int) W h (by omega) (by omega))
      have HTBr : Sec (∀ W, Below wr.heap.size wr W → TB W) := hide (fun W h => (HTB.out.below HB.out).below h)
      have hXb : X.size ≤ 419440000 := by have : k * 1048600 ≤ 400 * 1048600 := Nat.mul_le_mul_right _ (by omega); omega
      generalize hD : decS (n : Int) = D at *
      have hN := hide hn
      clear hD hn
      · rcases hkk with hkk | hkk
        · have hsg : (⟨#[45]⟩ : ByteArray) = mkS [sgnC c] := by unfold sgnC; rw [hkk]; rfl
          have HRR := hide (HJ.out _ hsg)
          have h45 : (⟨#[45]⟩ : ByteArray).size = 1 := rfl
          have z1 : ((⟨#[45]⟩ : ByteArray) ++ D).size ≤ 22 := by rw [ByteArray.size_append, h45]; omega
          have z2 : (((⟨#[45]⟩ : ByteArray) ++ D) ++ (⟨#[32]⟩ : ByteArray)).size ≤ 23 := by rw [ByteArray.size_append, h32]; omega
          have z3 : ((((⟨#[45]⟩ : ByteArray) ++ D) ++ (⟨#[32]⟩ : ByteArray)) ++ c.t).size ≤ 1048599 := by rw [ByteArray.size_append]; omega
          have z4 : (((((⟨#[45]⟩ : ByteArray) ++ D) ++ (⟨#[32]⟩ : ByteArray)) ++ c.t) ++ (⟨#[10]⟩ : ByteArray)).size ≤ 1048600 := by rw [ByteArray.size_append, h10]; omega
          clear hsg
          go_wp2
          go_region_held (fun w' => w'.cell? ⟨wr.heap.size, 1, none⟩ = some (.int .i64 (n : Int)) ∧ w'.cell? ⟨wr.heap.size, 2, none⟩ = some (.string c.t)) (first | go_keep | (refine ⟨(hb3.cell ?_).trans ?_, (hb3.cell ?_).trans ?_⟩ <;> first | assumption | (simp [*]; done) | (simp; omega))) (first | (go_at_call 31; refine (HDEC.out _ (by first | exact HTBr.out _ ((by repeat (first | exact Below.refl _ _ | assumption | refine Below.drew ?_ | refine below_drewN ?_ _ | refine Below.alloc ?_ (by simp <;> omega) _ | refine Below.setCell ?_ (by simp <;> omega) _))) | exact HTBr.out _ ((by repeat (first | exact Below.refl _ _ | assumption | refine Below.drew ?_ | refine below_drewN ?_ _ | refine Below.alloc ?_ (by simp <;> omega) _ | refine Below.setCell ?_ (by simp <;> omega) _))))).mono ?_; rintro e w3 ⟨rfl, hb3⟩))
          have hb4 : Below w.heap.size w w3 := bthen (HB.out.alloc HB.out.size (.cells #[.int .i64 1, .int .i64 (n : Int), .string c.t] 35)) (by have := HB.out.size; simp; omega) (by first | exact hb3 | exact undrew hb3 | exact undrewN hb3)
          have HB3 := hide hb4; clear hb3 hb4
          go_wp2
          go_roundw
          case rel => exact ⟨k + 1, _, by omega, by go_num, rfl, by rw [HX2.out, HRR.out, mkS_append, txtCs_take HG.out], by rw [ByteArray.size_append]; omega, (by first | exact HB3.out | exact undrew HB3.out | exact Below.drew HB3.out | exact Below.drew (undrew HB3.out) | exact undrewN HB3.out | exact below_drewN HB3.out _)⟩
          case measure => simp [intOf]; omega
        · have hsg : (⟨#[43]⟩ : ByteArray) = mkS [sgnC c] := by unfold sgnC; rw [hkk]; rfl
          have HRR := hide (HJ.out _ hsg)
          have h45 : (⟨#[43]⟩ : ByteArray).size = 1 := rfl
          have z1 : ((⟨#[43]⟩ : ByteArray) ++ D).size ≤ 22 := by rw [ByteArray.size_append, h45]; omega
          have z2 : (((⟨#[43]⟩ : ByteArray) ++ D) ++ (⟨#[32]⟩ : ByteArray)).size ≤ 23 := by rw [ByteArray.size_append, h32]; omega
          have z3 : ((((⟨#[43]⟩ : ByteArray) ++ D) ++ (⟨#[32]⟩ : ByteArray)) ++ c.t).size ≤ 1048599 := by rw [ByteArray.size_append]; omega
          have z4 : (((((⟨#[43]⟩ : ByteArray) ++ D) ++ (⟨#[32]⟩ : ByteArray)) ++ c.t) ++ (⟨#[10]⟩ : ByteArray)).size ≤ 1048600 := by rw [ByteArray.size_append, h10]; omega
          clear hsg
          go_wp2
          go_region_held (fun w' => w'.cell? ⟨wr.heap.size, 1, none⟩ = some (.int .i64 (n : Int)) ∧ w'.cell? ⟨wr.heap.size, 2, none⟩ = some (.string c.t)) (first | go_keep | (refine ⟨(hb3.cell ?_).trans ?_, (hb3.cell ?_).trans ?_⟩ <;> first | assumption | (simp [*]; done) | (simp; omega))) (first | (go_at_call 31; refine (HDEC.out _ (by first | exact HTBr.out _ ((by repeat (first | exact Below.refl _ _ | assumption | refine Below.drew ?_ | refine below_drewN ?_ _ | refine Below.alloc ?_ (by simp <;> omega) _ | refine Below.setCell ?_ (by simp <;> omega) _))) | exact HTBr.out _ ((by repeat (first | exact Below.refl _ _ | assumption | refine Below.drew ?_ | refine below_drewN ?_ _ | refine Below.alloc ?_ (by simp <;> omega) _ | refine Below.setCell ?_ (by simp <;> omega) _))))).mono ?_; rintro e w3 ⟨rfl, hb3⟩))
          have hb4 : Below w.heap.size w w3 := bthen (HB.out.alloc HB.out.size (.cells #[.int .i64 2, .int .i64 (n : Int), .string c.t] 35)) (by have := HB.out.size; simp; omega) (by first | exact hb3 | exact undrew hb3 | exact undrewN hb3)
          have HB3 := hide hb4; clear hb3 hb4
          go_wp2
          go_roundw
          case rel => exact ⟨k + 1, _, by omega, by go_num, rfl, by rw [HX2.out, HRR.out, mkS_append, txtCs_take HG.out], by rw [ByteArray.size_append]; omega, (by first | exact HB3.out | exact undrew HB3.out | exact Below.drew HB3.out | exact Below.drew (undrew HB3.out) | exact undrewN HB3.out | exact below_drewN HB3.out _)⟩
          case measure => simp [intOf]; omega
    · have hXT : X = T := by rw [HX2.out, List.take_of_length_le (by omega), HTT.out]
      have HXT := hide hXT; clear hXT
      go_wp2
      go_ret
      rw [HXT.out]
      exact ⟨rfl, HB.out⟩
end Go.Proofs.YtjbcanihpcfncaaDoor
