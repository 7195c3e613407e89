/- Plain steps of the changes from some lines to others. Contract: the changes from some lines to others (impl.diff). -/
import Derived.Test.YtpmflkoepnanoaaDoorZd
import Derived.Test.YtpmflkoepnanoaaDoorUj
namespace Go.Proofs.YtpmflkoepnanoaaDoor
section
open Go.RowKit
theorem diff_both {a b : List ByteArray} {i j : Nat} {x y : ByteArray} (hx : a[i]? = some x) (hy : b[j]? = some y) (h : x = y) :
    diffF i (a.drop i) (b.drop j) = diffF (i + 1) (a.drop (i + 1)) (b.drop (j + 1)) := by
  obtain ⟨hi, rfl⟩ := List.getElem?_eq_some_iff.1 hx
  obtain ⟨hj, rfl⟩ := List.getElem?_eq_some_iff.1 hy
  rw [List.drop_eq_getElem_cons hi, List.drop_eq_getElem_cons hj, diffF, if_pos h]
theorem diff_del {a b : List ByteArray} {i j : Nat} {x y : ByteArray} (hx : a[i]? = some x) (hy : b[j]? = some y) (h : ¬ x = y) (hl : lenM a b i (j + 1) ≤ lenM a b (i + 1) j) :
    diffF i (a.drop i) (b.drop j) = ⟨1, (i : Int), x⟩ :: diffF (i + 1) (a.drop (i + 1)) (b.drop j) := by
  obtain ⟨hi, rfl⟩ := List.getElem?_eq_some_iff.1 hx
  obtain ⟨hj, rfl⟩ := List.getElem?_eq_some_iff.1 hy
  unfold lenM at hl
  rw [List.drop_eq_getElem_cons hi, List.drop_eq_getElem_cons hj] at hl ⊢
  rw [diffF, if_neg h, if_pos (by omega)]
theorem diff_ins {a b : List ByteArray} {i j : Nat} {x y : ByteArray} (hx : a[i]? = some x) (hy : b[j]? = some y) (h : ¬ x = y) (hl : lenM a b (i + 1) j < lenM a b i (j + 1)) :
    diffF i (a.drop i) (b.drop j) = ⟨2, (i : Int), y⟩ :: diffF i (a.drop i) (b.drop (j + 1)) := by
  obtain ⟨hi, rfl⟩ := List.getElem?_eq_some_iff.1 hx
  obtain ⟨hj, rfl⟩ := List.getElem?_eq_some_iff.1 hy
  unfold lenM at hl
  rw [List.drop_eq_getElem_cons hi, List.drop_eq_getElem_cons hj] at hl ⊢
  rw [diffF, if_neg h, if_neg (by omega)]
theorem diff_del0 {a b : List ByteArray} {i : Nat} {x : ByteArray} (hx : a[i]? = some x) :
    diffF i (a.drop i) (b.drop b.length) = ⟨1, (i : Int), x⟩ :: diffF (i + 1) (a.drop (i + 1)) (b.drop b.length) := by
  obtain ⟨hi, rfl⟩ := List.getElem?_eq_some_iff.1 hx
  rw [List.drop_eq_getElem_cons hi, List.drop_length, diffF]
theorem diff_ins0 {a b : List ByteArray} {j : Nat} {y : ByteArray} (hy : b[j]? = some y) :
    diffF a.length (a.drop a.length) (b.drop j) = ⟨2, (a.length : Int), y⟩ :: diffF a.length (a.drop a.length) (b.drop (j + 1)) := by
  obtain ⟨hj, rfl⟩ := List.getElem?_eq_some_iff.1 hy
  rw [List.drop_eq_getElem_cons hj, List.drop_length, diffF]
theorem diff_end {a b : List ByteArray} : diffF a.length (a.drop a.length) (b.drop b.length) = [] := by
  rw [List.drop_length, List.drop_length, diffF]
end
open Go.RowKit
set_option maxHeartbeats 4000000 in
set_option maxRecDepth 20000 in
theorem c_diff (va vb : Value) (a b : List ByteArray) (w : World) (hra : RdS w va a) (hrb : RdS w vb b) (ha : a.length ≤ 200) (hb : b.length ≤ 200) :
    Calls Tryd.prog 37 #[va, vb] w fun e w' => ∃ v', e = .returned v' ∧ OwC 78 w' w.heap.size v' (diffF 0 a b) ∧ Below w.heap.size w w' := by
  have HRA := hide hra; have HRB := hide hrb
  obtain ⟨A1, cap1, rfl, hl1, hc1, hx1⟩ := hra.openS
  obtain ⟨A2, cap2, rfl, hl2, hc2, hx2⟩ := hrb.openS
  have HX1 := hide hx1; have HX2 := hide hx2; clear hx1 hx2 hra hrb
  go_enter Tryd.func37, Tryd.ntmps37
  go_wp2_with (go_at_call 84; refine (c_common _ _ a b _ HRA.out HRB.out ha hb).mono ?_; rintro e w1 ⟨g, R, rfl, hm1, hb1⟩; have hs1 := hb1.size; have HM := hide hm1; have HB1 := hide hb1; have hgl := hm1.1.lt; clear hm1 hb1)
  go_loopw [6, 7, 8] (fun o iv jv wr => ∃ (i j : Nat) (L : List Chg), i ≤ a.length ∧ j ≤ b.length ∧ iv = .int .i64 (i : Int) ∧ jv = .int .i64 (j : Int) ∧ L.length ≤ i + j ∧ L ++ diffF i (a.drop i) (b.drop j) = diffF 0 a b ∧ OwC 78 wr w1.heap.size o L ∧ Below w.heap.size w wr ∧ Below w1.heap.size w1 wr) (fun _ iv jv _ => a.length - (intOf iv).toNat + (b.length - (intOf jv).toNat))
  case atStart => exact ⟨0, 0, [], Nat.zero_le _, Nat.zero_le _, rfl, rfl, by simp, by simp, new_chg w1, HB1.out.alloc hs1 _, (Below.refl _ _).alloc (Nat.le_refl _) _⟩
  case round =>
    obtain ⟨i, j, L, hi, hj, rfl, rfl, hL, heq, ho, hbw, hbb⟩ := hrel
    have HEQ := hide heq; have HO := hide ho; have HB := hide hbw; have HBB := hide hbb; have hsz := hbb.size; have hgw : g < wr.heap.size := Nat.lt_of_lt_of_le hgl hbb.size
    clear heq ho hbw hbb
    by_cases hia : i < a.length
    · have hia3 : (i : Int) < (a.length : Int) := by omega
      have hxa : a[i]? = some a[i] := List.getElem?_eq_getElem hia
      obtain ⟨ab, ao, rfl, hab, e1⟩ := HX1.out i _ hxa
      have d1 := (HB.out.cell hab).trans e1
      have hab2 : ab < wr.heap.size := Nat.lt_of_lt_of_le hab HB.out.size
      have HXA := hide hxa
      clear e1 hxa
      generalize a[i] = x at *
      by_cases hjb : j < b.length
      · have hjb3 : (j : Int) < (b.length : Int) := by omega
        have hjn : ¬ (b.length : Int) ≤ (j : Int) := by omega
        have hjne : ((j : Int) == (b.length : Int)) = false := by simp; omega
        have hyb : b[j]? = some b[j] := List.getElem?_eq_getElem hjb
        obtain ⟨bb, bo, rfl, hbb, e2⟩ := HX2.out j _ hyb
        have d2 := (HB.out.cell hbb).trans e2
        have hbb2 : bb < wr.heap.size := Nat.lt_of_lt_of_le hbb HB.out.size
        have HYB := hide hyb
        clear e2 hyb
        generalize b[j] = y at *
        have hw1 : IntKind.i64.wrap ((i : Int) + 1) = (i : Int) + 1 := IntWalk.i64_in _ (by omega)
        have hw2 : IntKind.i64.wrap ((j : Int) + 1) = (j : Int) + 1 := IntWalk.i64_in _ (by omega)
        by_cases hxy : x = y
        · have hxb : (x.toList == y.toList) = true := by rw [str_eq]; exact decide_eq_true hxy
          have HST := hide (diff_both HXA.out HYB.out hxy)
          clear hxy
          go_wp2
          go_quiet (fail)
          go_wp2
          go_roundw
          case rel => exact ⟨i + 1, j + 1, L, by omega, by omega, by go_num, by go_num, by omega, by rw [← HST.out]; exact HEQ.out, HO.out.all (by repeat (first | exact Below.refl _ _ | assumption | refine Below.drew ?_ | refine below_drewN ?_ _ | refine Below.alloc ?_ (by simp <;> omega) _ | refine Below.setCell ?_ (by simp <;> omega) _)), bthen HB.out HB.out.size (by repeat (first | exact Below.refl _ _ | assumption | refine Below.drew ?_ | refine below_drewN ?_ _ | refine Below.alloc ?_ (by simp <;> omega) _ | refine Below.setCell ?_ (by simp <;> omega) _)), bthen HBB.out HBB.out.size (by repeat (first | exact Below.refl _ _ | assumption | refine Below.drew ?_ | refine below_drewN ?_ _ | refine Below.alloc ?_ (by simp <;> omega) _ | refine Below.setCell ?_ (by simp <;> omega) _))⟩
          case measure => simp [intOf]; omega
        · have hxb : (x.toList == y.toList) = false := by rw [str_eq]; exact decide_eq_false hxy
          have hia4 : (i : Int) < (a.length : Int) + 1 := by omega
          have hjb4 : (j : Int) < (b.length : Int) + 1 := by omega
          have hz1 : (0 : Int) ≤ (i : Int) + 1 := by omega
          have hz2 : (0 : Int) ≤ (j : Int) + 1 := by omega
          have hia5 : (i : Int) + 1 < (a.length : Int) + 1 := by omega
          have hjb5 : (j : Int) + 1 < (b.length : Int) + 1 := by omega
          have q1 := (HBB.out.cell hgl).trans (HM.out.out (i := i) (by omega))
          have q2 := (HBB.out.cell hgl).trans (HM.out.out (i := i + 1) (by omega))
          have q4 := (HBB.out.cell (HM.out.lt (i := i + 1) (by omega))).trans (HM.out.at_ (i := i + 1) (j := j) (by omega) (by omega))
          have q5 := (HBB.out.cell (HM.out.lt (i := i) (by omega))).trans (HM.out.at_ (i := i) (j := j + 1) (by omega) (by omega))
          by_cases hle : lenM a b i (j + 1) ≤ lenM a b (i + 1) j
          · have HST := hide (diff_del HXA.out HYB.out hxy hle)
            generalize lenM a b (i + 1) j = v2 at *
            generalize lenM a b i (j + 1) = v3 at *
            clear hxy
            go_wp2
            go_quiet (fail)
            go_wp2
            go_quiet (fail)
            go_wp2_with (at_builtin; refine app1_chg (c := ⟨1, (i : Int), x⟩) rfl _ _ rfl rfl (HO.out.all (by repeat (first | exact Below.refl _ _ | assumption | refine Below.drew ?_ | refine below_drewN ?_ _ | refine Below.alloc ?_ (by simp <;> omega) _ | refine Below.setCell ?_ (by simp <;> omega) _))) (by first | rfl | (show Value.slice (some ⟨wr.heap.size, 0, none⟩) 1 1 = _; simp)) (by omega) (by first | (simp [World.setCell]; omega) | (simp; omega)) ?_; intro v1 w3 ho3 hg3 hv3; have hb3 := below_own (bthen HB.out HB.out.size (by repeat (first | exact Below.refl _ _ | assumption | refine Below.drew ?_ | refine below_drewN ?_ _ | refine Below.alloc ?_ (by simp <;> omega) _ | refine Below.setCell ?_ (by simp <;> omega) _))) (HO.out.all (by repeat (first | exact Below.refl _ _ | assumption | refine Below.drew ?_ | refine below_drewN ?_ _ | refine Below.alloc ?_ (by simp <;> omega) _ | refine Below.setCell ?_ (by simp <;> omega) _))).2 hg3 hs1 (by have := HB.out.size; first | (simp [World.setCell]; omega) | (simp; omega)); have hb4 := below_own (bthen HBB.out HBB.out.size (by repeat (first | exact Below.refl _ _ | assumption | refine Below.drew ?_ | refine below_drewN ?_ _ | refine Below.alloc ?_ (by simp <;> omega) _ | refine Below.setCell ?_ (by simp <;> omega) _))) (HO.out.all (by repeat (first | exact Below.refl _ _ | assumption | refine Below.drew ?_ | refine below_drewN ?_ _ | refine Below.alloc ?_ (by simp <;> omega) _ | refine Below.setCell ?_ (by simp <;> omega) _))).2 hg3 (Nat.le_refl _) (by first | (simp [World.setCell]; omega) | (simp; omega)); have HO3 := hide ho3; have HB3 := hide hb3; have HB4 := hide hb4; clear ho3 hb3 hb4 hg3 hv3)
            go_roundw
            case rel => exact ⟨i + 1, j, L ++ [⟨1, (i : Int), x⟩], by omega, by omega, by go_num, by go_num, by simp; omega, by rw [← HEQ.out, HST.out]; simp, HO3.out, HB3.out, HB4.out⟩
            case measure => simp [intOf]; omega
          · have HST := hide (diff_ins HXA.out HYB.out hxy (by omega))
            generalize lenM a b (i + 1) j = v2 at *
            generalize lenM a b i (j + 1) = v3 at *
            clear hxy
            go_wp2
            go_quiet (fail)
            go_wp2
            go_quiet (fail)
            go_wp2_with (at_builtin; refine app1_chg (c := ⟨2, (i : Int), y⟩) rfl _ _ rfl rfl (HO.out.all (by repeat (first | exact Below.refl _ _ | assumption | refine Below.drew ?_ | refine below_drewN ?_ _ | refine Below.alloc ?_ (by simp <;> omega) _ | refine Below.setCell ?_ (by simp <;> omega) _))) (by first | rfl | (show Value.slice (some ⟨wr.heap.size, 0, none⟩) 1 1 = _; simp)) (by omega) (by first | (simp [World.setCell]; omega) | (simp; omega)) ?_; intro v1 w3 ho3 hg3 hv3; have hb3 := below_own (bthen HB.out HB.out.size (by repeat (first | exact Below.refl _ _ | assumption | refine Below.drew ?_ | refine below_drewN ?_ _ | refine Below.alloc ?_ (by simp <;> omega) _ | refine Below.setCell ?_ (by simp <;> omega) _))) (HO.out.all (by repeat (first | exact Below.refl _ _ | assumption | refine Below.drew ?_ | refine below_drewN ?_ _ | refine Below.alloc ?_ (by simp <;> omega) _ | refine Below.setCell ?_ (by simp <;> omega) _))).2 hg3 hs1 (by have := HB.out.size; first | (simp [World.setCell]; omega) | (simp; omega)); have hb4 := below_own (bthen HBB.out HBB.out.size (by repeat (first | exact Below.refl _ _ | assumption | refine Below.drew ?_ | refine below_drewN ?_ _ | refine Below.alloc ?_ (by simp <;> omega) _ | refine Below.setCell ?_ (by simp <;> omega) _))) (HO.out.all (by repeat (first | exact Below.refl _ _ | assumption | refine Below.drew ?_ | refine below_drewN ?_ _ | refine Below.alloc ?_ (by simp <;> omega) _ | refine Below.setCell ?_ (by simp <;> omega) _))).2 hg3 (Nat.le_refl _) (by first | (simp [World.setCell]; omega) | (simp; omega)); have HO3 := hide ho3; have HB3 := hide hb3; have HB4 := hide hb4; clear ho3 hb3 hb4 hg3 hv3)
            go_roundw
            case rel => exact ⟨i, j + 1, L ++ [⟨2, (i : Int), y⟩], by omega, by omega, by go_num, by go_num, by simp; omega, by rw [← HEQ.out, HST.out]; simp, HO3.out, HB3.out, HB4.out⟩
            case measure => simp [intOf]; omega
      · obtain rfl : j = b.length := by omega
        have HST := hide (diff_del0 (b := b) HXA.out)
        go_wp2
        go_quiet (fail)
        go_wp2
        go_quiet (fail)
        go_wp2_with (at_builtin; refine app1_chg (c := ⟨1, (i : Int), x⟩) rfl _ _ rfl rfl (HO.out.all (by repeat (first | exact Below.refl _ _ | assumption | refine Below.drew ?_ | refine below_drewN ?_ _ | refine Below.alloc ?_ (by simp <;> omega) _ | refine Below.setCell ?_ (by simp <;> omega) _))) (by first | rfl | (show Value.slice (some ⟨wr.heap.size, 0, none⟩) 1 1 = _; simp)) (by omega) (by first | (simp [World.setCell]; omega) | (simp; omega)) ?_; intro v1 w3 ho3 hg3 hv3; have hb3 := below_own (bthen HB.out HB.out.size (by repeat (first | exact Below.refl _ _ | assumption | refine Below.drew ?_ | refine below_drewN ?_ _ | refine Below.alloc ?_ (by simp <;> omega) _ | refine Below.setCell ?_ (by simp <;> omega) _))) (HO.out.all (by repeat (first | exact Below.refl _ _ | assumption | refine Below.drew ?_ | refine below_drewN ?_ _ | refine Below.alloc ?_ (by simp <;> omega) _ | refine Below.setCell ?_ (by simp <;> omega) _))).2 hg3 hs1 (by have := HB.out.size; first | (simp [World.setCell]; omega) | (simp; omega)); have hb4 := below_own (bthen HBB.out HBB.out.size (by repeat (first | exact Below.refl _ _ | assumption | refine Below.drew ?_ | refine below_drewN ?_ _ | refine Below.alloc ?_ (by simp <;> omega) _ | refine Below.setCell ?_ (by simp <;> omega) _))) (HO.out.all (by repeat (first | exact Below.refl _ _ | assumption | refine Below.drew ?_ | refine below_drewN ?_ _ | refine Below.alloc ?_ (by simp <;> omega) _ | refine Below.setCell ?_ (by simp <;> omega) _))).2 hg3 (Nat.le_refl _) (by first | (simp [World.setCell]; omega) | (simp; omega)); have HO3 := hide ho3; have HB3 := hide hb3; have HB4 := hide hb4; clear ho3 hb3 hb4 hg3 hv3)
        go_roundw
        case rel => exact ⟨i + 1, b.length, L ++ [⟨1, (i : Int), x⟩], by omega, by omega, by go_num, by go_num, by simp; omega, by rw [← HEQ.out, HST.out]; simp, HO3.out, HB3.out, HB4.out⟩
        case measure => simp [intOf]; omega
    · obtain rfl : i = a.length := by omega
      by_cases hjb : j < b.length
      · have hjb3 : (j : Int) < (b.length : Int) := by omega
        have hyb : b[j]? = some b[j] := List.getElem?_eq_getElem hjb
        obtain ⟨bb, bo, rfl, hbb, e2⟩ := HX2.out j _ hyb
        have d2 := (HB.out.cell hbb).trans e2
        have hbb2 : bb < wr.heap.size := Nat.lt_of_lt_of_le hbb HB.out.size
        have HST := hide (diff_ins0 (a := a) hyb)
        clear e2 hyb
        generalize b[j] = y at *
        go_wp2
        go_quiet (fail)
        go_wp2
        go_quiet (fail)
        go_wp2_with (at_builtin; refine app1_chg (c := ⟨2, (a.length : Int), y⟩) rfl _ _ rfl rfl (HO.out.all (by repeat (first | exact Below.refl _ _ | assumption | refine Below.drew ?_ | refine below_drewN ?_ _ | refine Below.alloc ?_ (by simp <;> omega) _ | refine Below.setCell ?_ (by simp <;> omega) _))) (by first | rfl | (show Value.slice (some ⟨wr.heap.size, 0, none⟩) 1 1 = _; simp)) (by omega) (by first | (simp [World.setCell]; omega) | (simp; omega)) ?_; intro v1 w3 ho3 hg3 hv3; have hb3 := below_own (bthen HB.out HB.out.size (by repeat (first | exact Below.refl _ _ | assumption | refine Below.drew ?_ | refine below_drewN ?_ _ | refine Below.alloc ?_ (by simp <;> omega) _ | refine Below.setCell ?_ (by simp <;> omega) _))) (HO.out.all (by repeat (first | exact Below.refl _ _ | assumption | refine Below.drew ?_ | refine below_drewN ?_ _ | refine Below.alloc ?_ (by simp <;> omega) _ | refine Below.setCell ?_ (by simp <;> omega) _))).2 hg3 hs1 (by have := HB.out.size; first | (simp [World.setCell]; omega) | (simp; omega)); have hb4 := below_own (bthen HBB.out HBB.out.size (by repeat (first | exact Below.refl _ _ | assumption | refine Below.drew ?_ | refine below_drewN ?_ _ | refine Below.alloc ?_ (by simp <;> omega) _ | refine Below.setCell ?_ (by simp <;> omega) _))) (HO.out.all (by repeat (first | exact Below.refl _ _ | assumption | refine Below.drew ?_ | refine below_drewN ?_ _ | refine Below.alloc ?_ (by simp <;> omega) _ | refine Below.setCell ?_ (by simp <;> omega) _))).2 hg3 (Nat.le_refl _) (by first | (simp [World.setCell]; omega) | (simp; omega)); have HO3 := hide ho3; have HB3 := hide hb3; have HB4 := hide hb4; clear ho3 hb3 hb4 hg3 hv3)
        go_roundw
        case rel => exact ⟨a.length, j + 1, L ++ [⟨2, (a.length : Int), y⟩], by omega, by omega, by go_num, by go_num, by simp; omega, by rw [← HEQ.out, HST.out]; simp, HO3.out, HB3.out, HB4.out⟩
        case measure => simp [intOf]; omega
      · obtain rfl : j = b.length := by omega
        have hall : L = diffF 0 a b := by have := HEQ.out; rw [diff_end] at this; simpa using this
        go_wp2
        go_ret
        exact ⟨_, rfl, by rw [← hall]; exact HO.out.more hs1, HB.out⟩
end Go.Proofs.YtpmflkoepnanoaaDoor
