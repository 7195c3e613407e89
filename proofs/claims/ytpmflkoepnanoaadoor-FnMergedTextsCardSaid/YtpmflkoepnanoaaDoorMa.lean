/- Contracts: the changes at a place, by both sides. Contract: lists of lines compared, by the reference. Plain facts of the changes from some lines to others. Contract: slices.Equal of lines. -/
import Derived.Test.YtpmflkoepnanoaaDoorXe
import Derived.Test.YtpmflkoepnanoaaDoorVe
import Derived.Test.YtpmflkoepnanoaaDoorTb
import Derived.Test.YtpmflkoepnanoaaDoorTa
namespace Go.Proofs.YtpmflkoepnanoaaDoor
section
open Go.RowKit
theorem insF_len (cs : List Chg) (i : Int) : (insF cs i).length ≤ cs.length := by unfold insF; exact List.length_filterMap_le _ _
set_option maxHeartbeats 1000000 in
set_option maxRecDepth 20000 in
theorem c_l32At (v : Value) (cs : List Chg) (p : Int) (w : World) (hr : RdC w v cs) (hk2 : ∀ c ∈ cs, c.k = 1 ∨ c.k = 2) (hn : cs.length ≤ 400) :
    Calls Tryd.prog 44 #[v, .int .i64 p] w fun e w' => ∃ v', e = .returned (.tuple #[v', .bool (delF cs p)]) ∧ OwS 9 w' w.heap.size v' (insF cs p) ∧ Below w.heap.size w w' := by
  obtain ⟨A, cap, rfl, hl, hc, hx⟩ := hr.openC
  have HX := hide hx; have HK2 := hide hk2; clear hx hr hk2
  go_enter Tryd.func44, Tryd.ntmps44
  go_wp2
  go_loopw [6, 7, 8] (fun o gv iv wr => ∃ k : Nat, k ≤ cs.length ∧ iv = .int .i64 (k : Int) ∧ gv = .bool (delF (cs.take k) p) ∧ OwS 9 wr w.heap.size o (insF (cs.take k) p) ∧ Below w.heap.size w wr) (fun _ _ iv _ => cs.length - (intOf iv).toNat)
  case atStart => exact ⟨0, Nat.zero_le _, rfl, rfl, new_str w, (Below.refl _ _).alloc (Nat.le_refl _) _⟩
  case round =>
    obtain ⟨k, hk, rfl, rfl, ho, hb⟩ := hrel
    have HO := hide ho; have HB := hide hb; have hsz := hb.size; clear ho hb
    by_cases hlt : k < cs.length
    · have hgc := List.getElem?_eq_getElem hlt
      have hlt3 : (k : Int) < (cs.length : Int) := by omega
      have hkk := HK2.out cs[k] (List.getElem_mem hlt)
      obtain ⟨b, off, rfl, hbw, e0, e1, e2⟩ := HX.out k _ hgc
      have d0 := (HB.out.cell hbw).trans e0
      have d1 := (HB.out.cell hbw).trans e1
      have d2 := (HB.out.cell hbw).trans e2
      have hbr : b < wr.heap.size := Nat.lt_of_lt_of_le hbw hsz
      have HI := hide (insF_take (i := p) hgc); have HD := hide (delF_take (i := p) hgc)
      have HLL := hide (insF_len (cs.take k) p)
      clear e0 e1 e2 hgc
      generalize cs[k] = c at *
      have hlen : (insF (cs.take k) p).length ≤ 400 := by have := HLL.out; rw [List.length_take] at this; omega
      generalize insF (cs.take k) p = L at *
      generalize delF (cs.take k) p = D at *
      by_cases hp : c.p = p
      · have hpb : (c.p != p) = false := by simp [hp]
        rcases hkk with hkk | hkk
        · have hkb : (c.k == 2) = false := by rw [hkk]; rfl
          have HI2 := hide (show insF (cs.take (k + 1)) p = L by rw [HI.out, if_neg (by omega), List.append_nil]); have HD2 := hide (show delF (cs.take (k + 1)) p = true by rw [HD.out, decide_eq_true (And.intro hp hkk), Bool.or_true])
          clear hp hkk
          go_wp2
          go_roundw
          case rel => exact ⟨k + 1, by omega, by go_num, by rw [HD2.out], by rw [HI2.out]; exact HO.out, HB.out⟩
          case measure => simp [intOf]; omega
        · have hkb : (c.k == 2) = true := by rw [hkk]; rfl
          have HI2 := hide (show insF (cs.take (k + 1)) p = L ++ [c.t] by rw [HI.out, if_pos (And.intro hp (by omega))]); have HD2 := hide (show delF (cs.take (k + 1)) p = D by rw [HD.out, decide_eq_false (by omega), Bool.or_false])
          clear hp hkk
          go_wp2_with (at_builtin; refine app1_str (n := c.t) rfl _ _ rfl rfl HO.out rfl (by omega) hsz ?_; intro v1 w1 ho1 hg1 hv1; have hb1 := below_own HB.out HO.out.2 hg1 (Nat.le_refl _) hsz; have HO1 := hide ho1; have HB1 := hide hb1; clear ho1 hb1 hg1 hv1)
          go_roundw
          case rel => exact ⟨k + 1, by omega, by go_num, by rw [HD2.out], by rw [HI2.out]; exact HO1.out, HB1.out⟩
          case measure => simp [intOf]; omega
      · have hpb : (c.p != p) = true := by simp [hp]
        have HI2 := hide (show insF (cs.take (k + 1)) p = L by rw [HI.out, if_neg (fun h => hp h.1), List.append_nil]); have HD2 := hide (show delF (cs.take (k + 1)) p = D by rw [HD.out, decide_eq_false (fun h => hp h.1), Bool.or_false])
        clear hp hkk
        go_wp2
        go_roundw
        case rel => exact ⟨k + 1, by omega, by go_num, by rw [HD2.out], by rw [HI2.out]; exact HO.out, HB.out⟩
        case measure => simp [intOf]; omega
    · obtain rfl : k = cs.length := by omega
      rw [List.take_length] at HO
      go_wp2
      go_ret2
      exact ⟨_, by first | rfl | (rw [List.take_length]; rfl), HO.out, HB.out⟩
set_option maxHeartbeats 1000000 in
set_option maxRecDepth 20000 in
theorem c_changesAt (v : Value) (cs : List Chg) (p : Int) (w : World) (hr : RdC w v cs) (hk2 : ∀ c ∈ cs, c.k = 1 ∨ c.k = 2) (hn : cs.length ≤ 400) :
    Calls Tryd.prog 39 #[v, .int .i64 p] w fun e w' => ∃ v', e = .returned (.tuple #[v', .bool (delF cs p)]) ∧ OwS 9 w' w.heap.size v' (insF cs p) ∧ Below w.heap.size w w' := by
  obtain ⟨A, cap, rfl, hl, hc, hx⟩ := hr.openC
  have HX := hide hx; have HK2 := hide hk2; clear hx hr hk2
  go_enter Tryd.func39, Tryd.ntmps39
  go_wp2
  go_loopw [6, 7, 13] (fun o gv iv wr => ∃ k : Nat, k ≤ cs.length ∧ iv = .int .i64 (k : Int) ∧ gv = .bool (delF (cs.take k) p) ∧ OwS 9 wr w.heap.size o (insF (cs.take k) p) ∧ Below w.heap.size w wr) (fun _ _ iv _ => cs.length - (intOf iv).toNat)
  case atStart => exact ⟨0, Nat.zero_le _, rfl, rfl, new_str w, (Below.refl _ _).alloc (Nat.le_refl _) _⟩
  case round =>
    obtain ⟨k, hk, rfl, rfl, ho, hb⟩ := hrel
    have HO := hide ho; have HB := hide hb; have hsz := hb.size; clear ho hb
    by_cases hlt : k < cs.length
    · have hgc := List.getElem?_eq_getElem hlt
      have hlt3 : (k : Int) < (cs.length : Int) := by omega
      have hkk := HK2.out cs[k] (List.getElem_mem hlt)
      obtain ⟨b, off, rfl, hbw, e0, e1, e2⟩ := HX.out k _ hgc
      have d0 := (HB.out.cell hbw).trans e0
      have d1 := (HB.out.cell hbw).trans e1
      have d2 := (HB.out.cell hbw).trans e2
      have hbr : b < wr.heap.size := Nat.lt_of_lt_of_le hbw hsz
      have HI := hide (insF_take (i := p) hgc); have HD := hide (delF_take (i := p) hgc)
      have HLL := hide (insF_len (cs.take k) p)
      clear e0 e1 e2 hgc
      generalize cs[k] = c at *
      have hlen : (insF (cs.take k) p).length ≤ 400 := by have := HLL.out; rw [List.length_take] at this; omega
      generalize insF (cs.take k) p = L at *
      generalize delF (cs.take k) p = D at *
      by_cases hp : c.p = p
      · have hpb : (c.p != p) = false := by simp [hp]
        rcases hkk with hkk | hkk
        · have hkb : (c.k == 1) = true := by rw [hkk]; rfl
          have HI2 := hide (show insF (cs.take (k + 1)) p = L by rw [HI.out, if_neg (by omega), List.append_nil]); have HD2 := hide (show delF (cs.take (k + 1)) p = true by rw [HD.out, decide_eq_true (And.intro hp hkk), Bool.or_true])
          clear hp hkk
          go_wp2
          go_roundw
          case rel => exact ⟨k + 1, by omega, by go_num, by rw [HD2.out], by rw [HI2.out]; exact HO.out.all (by repeat (first | exact Below.refl _ _ | assumption | refine Below.drew ?_ | refine below_drewN ?_ _ | refine Below.alloc ?_ (by simp <;> omega) _ | refine Below.setCell ?_ (by simp <;> omega) _)), bthen HB.out HB.out.size (by repeat (first | exact Below.refl _ _ | assumption | refine Below.drew ?_ | refine below_drewN ?_ _ | refine Below.alloc ?_ (by simp <;> omega) _ | refine Below.setCell ?_ (by simp <;> omega) _))⟩
          case measure => simp [intOf]; omega
        · have hkb : (c.k == 1) = false := by rw [hkk]; rfl
          have HI2 := hide (show insF (cs.take (k + 1)) p = L ++ [c.t] by rw [HI.out, if_pos (And.intro hp (by omega))]); have HD2 := hide (show delF (cs.take (k + 1)) p = D by rw [HD.out, decide_eq_false (by omega), Bool.or_false])
          clear hp hkk
          go_wp2_with (at_builtin; refine app1_str (n := c.t) rfl _ _ rfl rfl (HO.out.all (by repeat (first | exact Below.refl _ _ | assumption | refine Below.drew ?_ | refine below_drewN ?_ _ | refine Below.alloc ?_ (by simp <;> omega) _ | refine Below.setCell ?_ (by simp <;> omega) _))) (by first | rfl | (show Value.slice (some ⟨wr.heap.size + 1, 0, none⟩) 1 1 = _; simp)) (by omega) (by first | (simp; omega) | omega) ?_; intro v1 w1 ho1 hg1 hv1; have hb1 := below_own (bthen HB.out HB.out.size (by repeat (first | exact Below.refl _ _ | assumption | refine Below.drew ?_ | refine below_drewN ?_ _ | refine Below.alloc ?_ (by simp <;> omega) _ | refine Below.setCell ?_ (by simp <;> omega) _))) (HO.out.all (by repeat (first | exact Below.refl _ _ | assumption | refine Below.drew ?_ | refine below_drewN ?_ _ | refine Below.alloc ?_ (by simp <;> omega) _ | refine Below.setCell ?_ (by simp <;> omega) _))).2 hg1 (Nat.le_refl _) (by first | (simp; omega) | omega); have HO1 := hide ho1; have HB1 := hide hb1; clear ho1 hb1 hg1 hv1)
          go_roundw
          case rel => exact ⟨k + 1, by omega, by go_num, by rw [HD2.out], by rw [HI2.out]; exact HO1.out, HB1.out⟩
          case measure => simp [intOf]; omega
      · have hpb : (c.p != p) = true := by simp [hp]
        have HI2 := hide (show insF (cs.take (k + 1)) p = L by rw [HI.out, if_neg (fun h => hp h.1), List.append_nil]); have HD2 := hide (show delF (cs.take (k + 1)) p = D by rw [HD.out, decide_eq_false (fun h => hp h.1), Bool.or_false])
        clear hp hkk
        go_wp2
        go_roundw
        case rel => exact ⟨k + 1, by omega, by go_num, by rw [HD2.out], by rw [HI2.out]; exact HO.out.all (by repeat (first | exact Below.refl _ _ | assumption | refine Below.drew ?_ | refine below_drewN ?_ _ | refine Below.alloc ?_ (by simp <;> omega) _ | refine Below.setCell ?_ (by simp <;> omega) _)), bthen HB.out HB.out.size (by repeat (first | exact Below.refl _ _ | assumption | refine Below.drew ?_ | refine below_drewN ?_ _ | refine Below.alloc ?_ (by simp <;> omega) _ | refine Below.setCell ?_ (by simp <;> omega) _))⟩
        case measure => simp [intOf]; omega
    · obtain rfl : k = cs.length := by omega
      rw [List.take_length] at HO
      go_wp2
      go_ret2
      exact ⟨_, by first | rfl | (rw [List.take_length]; rfl), HO.out, HB.out⟩
end
section
open Go.RowKit
set_option maxHeartbeats 1000000 in
set_option maxRecDepth 20000 in
theorem c_l32Same (v1 v2 : Value) (xs ys : List ByteArray) (w : World) (hr1 : RdS w v1 xs) (hr2 : RdS w v2 ys) : Calls Tryd.prog 45 #[v1, v2] w fun e w' => e = .returned (.bool (decide (xs = ys))) ∧ Dr w w' := by
  obtain ⟨A1, cap1, rfl, hl1, hc1, hx1⟩ := hr1.openS
  obtain ⟨A2, cap2, rfl, hl2, hc2, hx2⟩ := hr2.openS
  have HX1 := hide hx1; have HX2 := hide hx2; clear hx1 hx2 hr1 hr2
  by_cases hlen : xs.length = ys.length
  · have hnb : ((xs.length : Int) != (ys.length : Int)) = false := by simp [hlen]
    have hl3 : (xs.length : Int) = (ys.length : Int) := by omega
    have HLEN := hide hlen; have HL3 := hide hl3; clear hlen hl3
    go_enter Tryd.func45, Tryd.ntmps45
    go_wp2
    go_loopw [5] (fun i wr => ∃ k : Nat, k ≤ xs.length ∧ i = .int .i64 k ∧ xs.take k = ys.take k ∧ Dr w wr) (fun i _ => xs.length - (intOf i).toNat)
    case atStart => exact ⟨0, Nat.zero_le _, rfl, rfl, Dr.refl _⟩
    case round =>
      obtain ⟨k, hk, rfl, ht, nr, rfl⟩ := hrel
      have HT := hide ht; clear ht
      by_cases hlt : k < xs.length
      · have hlt2 : k < ys.length := by rw [← HLEN.out]; exact hlt
        have hxa := List.getElem?_eq_getElem hlt
        have hyb := List.getElem?_eq_getElem hlt2
        obtain ⟨b1, o1, rfl, hb1, e0⟩ := HX1.out k _ hxa
        obtain ⟨b2, o2, rfl, hb2, e1⟩ := HX2.out k _ hyb
        have hk3 : (k : Int) < (ys.length : Int) := by omega
        have HXA := hide hxa; have HYB := hide hyb; clear hxa hyb
        generalize xs[k] = x at *
        generalize ys[k] = y at *
        by_cases hxy : x = y
        · have hxb : (x.toList == y.toList) = true := by rw [hxy]; simp
          have HN := hide (show xs.take (k + 1) = ys.take (k + 1) by rw [take_snoc_of HXA.out, take_snoc_of HYB.out, HT.out, hxy])
          clear hxy
          go_wp2
          go_quiet (fail)
          go_wp2
          go_roundw
          case rel => exact ⟨k + 1, by omega, by go_num, HN.out, (by repeat (first | exact Dr.refl _ | exact ⟨_, rfl⟩ | refine Dr.drewN ?_ _ | refine Dr.drew ?_))⟩
          case measure => simp [intOf]; omega
        · have hxb : (x.toList == y.toList) = false := by rw [str_eq]; exact decide_eq_false hxy
          have HN := hide (show ¬ xs = ys by
            intro h; have h1 := HXA.out; rw [h, HYB.out] at h1; exact hxy (Option.some.inj h1).symm)
          clear hxy
          go_wp2
          go_quiet (fail)
          go_wp2
          go_ret
          exact ⟨by rw [decide_eq_false HN.out]; rfl, (by repeat (first | exact Dr.refl _ | exact ⟨_, rfl⟩ | refine Dr.drewN ?_ _ | refine Dr.drew ?_))⟩
      · have HN := hide (show xs = ys by
          have h1 := HT.out; rw [List.take_of_length_le (by omega), List.take_of_length_le (by have := HLEN.out; omega)] at h1; exact h1)
        have hkl := hide (show k = xs.length by omega)
        have hlt3 : ¬ (k : Int) < (xs.length : Int) := by omega
        have hlt4 : ¬ (k : Int) < (ys.length : Int) := by have := HL3.out; omega
        go_wp2
        go_ret
        exact ⟨by rw [decide_eq_true HN.out]; rfl, (by repeat (first | exact Dr.refl _ | exact ⟨_, rfl⟩ | refine Dr.drewN ?_ _ | refine Dr.drew ?_))⟩
  · have hnb : ((xs.length : Int) != (ys.length : Int)) = true := by simp; omega
    have HN := hide (show ¬ xs = ys by intro h; exact hlen (by rw [h]))
    clear hlen
    go_enter Tryd.func45, Tryd.ntmps45
    go_wp2
    go_ret
    exact ⟨by rw [decide_eq_false HN.out]; rfl, Dr.refl _⟩
end
section
open Go.RowKit
theorem diffF_kind (i : Nat) (xs ys : List ByteArray) : ∀ c ∈ diffF i xs ys, c.k = 1 ∨ c.k = 2 := by
  fun_induction diffF i xs ys <;> simp_all
theorem diffF_txt (i : Nat) (xs ys : List ByteArray) : ∀ c ∈ diffF i xs ys, c.t ∈ xs ∨ c.t ∈ ys := by
  fun_induction diffF i xs ys with
  | case1 => simp
  | case2 i x xs ih => intro c hc; rcases List.mem_cons.1 hc with rfl | hc
                       · simp
                       · have := ih c hc; simp_all
  | case3 i y ys ih => intro c hc; rcases List.mem_cons.1 hc with rfl | hc
                       · simp
                       · have := ih c hc; simp_all
  | case4 => intro c hc; simp_all; rename_i ih; rcases ih c hc with h | h <;> simp [h]
  | case5 => 
    rename_i ih
    intro c hc; rcases List.mem_cons.1 hc with rfl | hc
    · simp
    · rcases ih c hc with h | h
      · exact .inl (List.mem_cons_of_mem _ h)
      · exact .inr h
  | case6 => 
    rename_i ih
    intro c hc; rcases List.mem_cons.1 hc with rfl | hc
    · simp
    · rcases ih c hc with h | h
      · exact .inl h
      · exact .inr (List.mem_cons_of_mem _ h)
theorem insF_from {cs : List Chg} {i : Int} {x : ByteArray} (h : x ∈ insF cs i) : ∃ c ∈ cs, c.t = x ∧ c.k ≠ 1 := by
  simp only [insF, List.mem_filterMap] at h
  obtain ⟨c, hc, h⟩ := h
  split at h
  · next h2 => exact ⟨c, hc, Option.some.inj h, h2.2⟩
  · cases h
end
open Go.RowKit
set_option maxHeartbeats 1000000 in
theorem c_Equal (v1 v2 : Value) (xs ys : List ByteArray) (w : World) (hr1 : RdS w v1 xs) (hr2 : RdS w v2 ys) : Calls Tryd.prog 40 #[v1, v2] w fun e w' => e = .returned (.bool (decide (xs = ys))) ∧ Dr w w' := by
  obtain ⟨A1, cap1, rfl, hl1, hc1, hx1⟩ := hr1.openS
  obtain ⟨A2, cap2, rfl, hl2, hc2, hx2⟩ := hr2.openS
  by_cases hlen : xs.length = ys.length
  · cases hxs : xs with
    | nil =>
      have h0 : ys = [] := by rw [hxs] at hlen; exact List.eq_nil_of_length_eq_zero hlen.symm
      subst hxs; subst h0
      refine (Tryd.slices_Equal_string_empty A1 A2 cap1 0 cap2 w (by omega)).mono ?_
      rintro e w' ⟨rfl, rfl⟩
      exact ⟨by simp, Dr.refl _⟩
    | cons x r =>
      rw [← hxs]
      have hpos : 0 < xs.length := by rw [hxs]; simp
      obtain ⟨b1, o1, rfl, _, _⟩ := hx1 0 _ (List.getElem?_eq_getElem hpos)
      obtain ⟨b2, o2, rfl, _, _⟩ := hx2 0 _ (List.getElem?_eq_getElem (by omega))
      refine (Tryd.slices_Equal_string b1 o1 xs.length cap1 b2 o2 ys.length cap2 xs ys w (Nat.le_refl _) (Nat.le_refl _) (by omega) (by omega) (fun j hj => ?_) (fun j hj => ?_)).mono ?_
      · obtain ⟨b, o, he, _, h⟩ := hx1 j _ (List.getElem?_eq_getElem hj)
        obtain ⟨rfl, rfl⟩ : b1 = b ∧ o1 = o := by simpa using he
        rw [h, List.getD_eq_getElem?_getD, List.getElem?_eq_getElem hj]; rfl
      · obtain ⟨b, o, he, _, h⟩ := hx2 j _ (List.getElem?_eq_getElem hj)
        obtain ⟨rfl, rfl⟩ : b2 = b ∧ o2 = o := by simpa using he
        rw [h, List.getD_eq_getElem?_getD, List.getElem?_eq_getElem hj]; rfl
      · rintro e w' ⟨rfl, q, rfl⟩
        rw [List.take_length, List.take_length]
        exact ⟨rfl, q, rfl⟩
  · refine (Tryd.slices_Equal_string_lens A1 A2 xs.length cap1 ys.length cap2 w hlen).mono ?_
    rintro e w' ⟨rfl, rfl⟩
    exact ⟨by rw [decide_eq_false (fun h => hlen (by rw [h]))], Dr.refl _⟩
end Go.Proofs.YtpmflkoepnanoaaDoor
