/- MergedTexts: the law. -/
import Derived.Test.YtpmflkoepnanoaaDoorNa
import Derived.Test.YtpmflkoepnanoaaDoorMh
namespace Go.Proofs.YtpmflkoepnanoaaDoor
open Go.RowKit
theorem joinL_lne (ls : List ByteArray) (h : ∀ x ∈ ls, Lne x) : (joinL ls).length ≤ 1001 * ls.length := by
  induction ls with
  | nil => simp [joinL]
  | cons x t ih =>
    have h1 := (h x (by simp)).2
    have h2 := ih fun y hy => h y (List.mem_cons_of_mem _ hy)
    have hx : x.data.toList.length = x.size := Array.length_toList
    have e : (joinL (x :: t)).length = x.data.toList.length + 1 + (joinL t).length := by
      unfold joinL; rw [List.flatMap_cons, List.length_append, List.length_append]; rfl
    rw [e, List.length_cons]
    omega
theorem joinS_size {ls : List ByteArray} (h : ∀ x ∈ ls, Lne x) (hn : ls.length ≤ 200) : (joinS ls).size ≤ 1048576 := by
  have := joinL_lne ls h
  unfold joinS; rw [size_mkS]; omega
theorem lne_shrt {ls : List ByteArray} (h : ∀ x ∈ ls, Lne x) : Shrt ls := fun x hx => by have := (h x hx).2; omega
theorem joinF_ok {ls : List ByteArray} (hn : ls.length ≤ 200) : joinF ls = (joinS ls, 0) := by unfold joinF; rw [if_neg (by omega)]
def A2R (w : World) (e : Ending) (w' : World) : Prop := ∃ (L Y Z : List ByteArray), e = .returned (.tuple #[.string (joinS L), .string (joinS Y), .string (joinS Z)]) ∧ (∀ x ∈ L, Lne x) ∧ (∀ x ∈ Y, Lne x) ∧ (∀ x ∈ Z, Lne x) ∧ L.length ≤ 9 ∧ Y.length ≤ 19 ∧ Z.length ≤ 19 ∧ Below w.heap.size w w'
theorem join_ok (v : Value) (ls : List ByteArray) (w : World) (hr : RdS w v ls) (h : ∀ x ∈ ls, Lne x) (hn : ls.length ≤ 200) : Calls Tryd.prog 33 #[v] w fun e w' => e = .returned (.tuple #[.string (joinS ls), .int .i64 0]) ∧ Below w.heap.size w w' := by
  have := c_l32Join v ls w hr (lne_shrt h)
  rw [joinF_ok hn] at this
  exact this
set_option maxHeartbeats 2000000 in
set_option maxRecDepth 100000 in
theorem c_A2Texts (v : Value) (bs : List UInt8) (w : World) (hr : RdY w v bs) (hbs : bs.length ≤ 1073741824) : Calls Tryd.prog 8 #[v] w (A2R w) := by
  have HR := hide hr
  have HLT := hide (fun h0 => hr.lt h0)
  obtain ⟨_, A, cap, rfl, _, _, _⟩ := hr
  have HB := hide ((Below.refl w.heap.size w).alloc (Nat.le_refl _) (.cells #[.slice A bs.length cap, .int .i64 0, .int .u64 0] 89))
  have HS := hide (show Src (w.alloc (.cells #[.slice A bs.length cap, .int .i64 0, .int .u64 0] 89)) w.heap.size (.slice A bs.length cap) 0 from ⟨0, by decide, Bk.born _ _ _⟩)
  have HRA : Sec (RdY (w.alloc (.cells #[.slice A bs.length cap, .int .i64 0, .int .u64 0] 89)) (.slice A bs.length cap) bs) := hide (Rd.alloc HR.out (.cells #[.slice A bs.length cap, .int .i64 0, .int .u64 0] 89))
  have HHD := hide (show 0 < bs.length → ∀ b, (Value.slice A bs.length cap).ownBlock = some b → b ≠ w.heap.size from fun h0 b e => by have := HLT.out h0 b e; omega)
  have hz1 : (w.alloc (.cells #[.slice A bs.length cap, .int .i64 0, .int .u64 0] 89)).heap.size = w.heap.size + 1 := by simp
  go_enter Tryd.func8, Tryd.ntmps8
  go_wp2_with fail
  refine (c_l00From _ _ _ _).mono ?_; rintro e w1 ⟨rfl, rfl⟩
  generalize hw1 : w.alloc (.cells #[.slice A bs.length cap, .int .i64 0, .int .u64 0] 89) = w1 at *
  clear hw1
  have HZ1 := hide hz1; clear hz1
  go_wp2_with fail
  refine (c_l32DrawLines w.heap.size _ bs 0 9 _ HS.out HRA.out (by omega) hbs HHD.out (by omega)).mono ?_; rintro e w2 ⟨vl, L, a2, rfl, ho, hL, hLl, ha2, hs2, hg2⟩
  have HL2 := hide ho; have HLN := hide hL; have HS2 := hide hs2; have HG2 := hide hg2; have HB2 := hide (HB.out.grown hg2 (by have := HZ1.out; omega) (fun k hk => by injection hk with hk; omega)); have HVG := hide (show ∀ b, vl.ownBlock = some b → b ≠ w.heap.size from fun b e => by have h1 := (ho.lt b e).1; have := HZ1.out; omega)
  clear ho hL hs2 hg2
  go_wp2_with fail
  refine (join_ok _ L _ HL2.out.rd HLN.out (by omega)).mono ?_; rintro e w3 ⟨rfl, hb⟩
  have HL3 := hide (HL2.out.all hb); have HS3 := hide (HS2.out.grown (grown_below hb none) (by simp)); have HG3 := hide (HG2.out.trans (grown_below hb (some w.heap.size))); have HB3 := hide (bthen HB2.out HB2.out.size hb); clear hb
  go_wp2_with fail
  refine (c_l32Edit w.heap.size _ _ L bs a2 _ HS3.out (HRA.out.gro HG3.out HHD.out) HL3.out.rd HLN.out (by omega) (by omega) hbs HHD.out HVG.out).mono ?_; rintro e w4 ⟨vy, Y, a3, rfl, ho, hY, hYl, ha3, hs4, hg4⟩
  have HY4 := hide ho; have HYN := hide hY; have HS4 := hide hs4; have HG4 := hide (HG3.out.trans hg4); have HB4 := hide (HB3.out.grown hg4 HB3.out.size (fun k hk => by injection hk with hk; omega)); have HL4 := hide (HL3.out.grb hg4 (by have := HZ1.out; omega))
  clear ho hY hs4 hg4
  go_wp2_with fail
  refine (join_ok _ Y _ HY4.out.rd HYN.out (by omega)).mono ?_; rintro e w5 ⟨rfl, hb⟩
  have HL5 := hide (HL4.out.all hb); have HS5 := hide (HS4.out.grown (grown_below hb none) (by simp)); have HG5 := hide (HG4.out.trans (grown_below hb (some w.heap.size))); have HB5 := hide (bthen HB4.out HB4.out.size hb); clear hb
  go_wp2_with fail
  refine (c_l32Edit w.heap.size _ _ L bs a3 _ HS5.out (HRA.out.gro HG5.out HHD.out) HL5.out.rd HLN.out (by omega) (by omega) hbs HHD.out HVG.out).mono ?_; rintro e w6 ⟨vz, Z, a4, rfl, ho, hZ, hZl, ha4, hs6, hg6⟩
  have HZ6 := hide ho; have HZN := hide hZ; have HB6 := hide (HB5.out.grown hg6 HB5.out.size (fun k hk => by injection hk with hk; omega))
  clear ho hZ hs6 hg6
  go_wp2_with fail
  refine (join_ok _ Z _ HZ6.out.rd HZN.out (by omega)).mono ?_; rintro e w7 ⟨rfl, hb⟩
  have HB7 := hide (bthen HB6.out HB6.out.size hb); clear hb
  go_wp2
  go_ret3
  exact ⟨L, Y, Z, rfl, HLN.out, HYN.out, HZN.out, hLl, by omega, by omega, HB7.out⟩
set_option maxHeartbeats 400000 in
theorem c_a2Long (v : Value) (xs : List UInt8) (w : World) (h1 : RdY w v xs) : Calls Tryd.prog 7 #[v, .slice none 0 0] w fun e w' => e = .returned (.bool (decide (3000 < xs.length))) ∧ w = w' := by
  obtain ⟨_, A, cap, rfl, _, _, _⟩ := h1
  by_cases hl : 3000 < xs.length
  · have h3 : (3000 : Int) < (xs.length : Int) := by omega
    have HD := hide (decide_eq_true hl); clear hl
    go_enter Tryd.func7, Tryd.ntmps7
    go_wp2
    go_ret
    exact ⟨by rw [HD.out]; rfl, rfl⟩
  · have h3 : ¬ (3000 : Int) < (xs.length : Int) := by omega
    have HD := hide (decide_eq_false hl); clear hl
    go_enter Tryd.func7, Tryd.ntmps7
    go_wp2
    go_ret
    exact ⟨by rw [HD.out]; rfl, rfl⟩
set_option maxHeartbeats 2000000 in
set_option maxRecDepth 100000 in
theorem law_MergedTexts (v : Value) (bs : List UInt8) (w : World) (h : RdY w v bs) : Calls Tryd.prog 3 #[v] w fun e w' => e = .returned (.bool true) ∧ Below w.heap.size w w' := by
  have H := hide h; clear h
  by_cases hl : 3000 < bs.length
  · have HD := hide (decide_eq_true hl); clear hl
    go_enter Tryd.func3, Tryd.ntmps3
    go_wp2_with fail
    refine (c_a2Long _ bs _ H.out).mono ?_; rw [HD.out]; rintro e _ ⟨rfl, rfl⟩
    go_wp2
    go_ret
    exact ⟨rfl, Below.refl _ _⟩
  · have HD := hide (decide_eq_false hl)
    go_enter Tryd.func3, Tryd.ntmps3
    go_wp2_with fail
    refine (c_a2Long _ bs _ H.out).mono ?_; rw [HD.out]; rintro e _ ⟨rfl, rfl⟩
    go_wp2_with fail
    refine (c_A2Texts _ bs _ H.out (by omega)).mono ?_; rintro e w1 ⟨L, Y, Z, rfl, hL, hY, hZ, l1, l2, l3, hb⟩
    have HB1 := hide hb; clear hb
    have pL : ∀ x ∈ L, Pln x := fun x hx => (hL x hx).1
    have pY : ∀ x ∈ Y, Pln x := fun x hx => (hY x hx).1
    have pZ : ∀ x ∈ Z, Pln x := fun x hx => (hZ x hx).1
    have m1 := merge_side pL pY (by omega) (by omega)
    have m2 := merge_side pL pZ (by omega) (by omega)
    have m3 := merge_code pL pY pZ (by omega)
    have m4 := merge_comm (joinS L) (joinS Z) (joinS Y)
    have zL := joinS_size hL (by omega); have zY := joinS_size hY (by omega); have zZ := joinS_size hZ (by omega)
    obtain ⟨p, hp⟩ : ∃ p, mergeF (joinS L) (joinS Y) (joinS Z) = p := ⟨_, rfl⟩
    rw [hp] at m3 m4
    have HM1 := hide m1.1; have HM2 := hide m2.2.1; have HM3 := hide m1.2.2; have HM4 := hide hp; have HM5 := hide m4; have HM6 := hide m3
    clear m1 m2 m3 m4 hp hL hY hZ pL pY pZ l1 l2 l3
    generalize joinS L = s at *
    generalize joinS Y = a at *
    generalize joinS Z = b at *
    have K1 : Sec (∀ w, Calls Tryd.prog 9 #[.string s, .string a, .string s] w fun e w' => e = .returned (.tuple #[.string a, .int .i64 0]) ∧ Below w.heap.size w w') := hide (fun w => by have := c_iMerge s a s w zL zY zL; rw [HM1.out] at this; exact this)
    have K2 : Sec (∀ w, Calls Tryd.prog 9 #[.string s, .string s, .string b] w fun e w' => e = .returned (.tuple #[.string b, .int .i64 0]) ∧ Below w.heap.size w w') := hide (fun w => by have := c_iMerge s s b w zL zL zZ; rw [HM2.out] at this; exact this)
    have K3 : Sec (∀ w, Calls Tryd.prog 9 #[.string s, .string a, .string a] w fun e w' => e = .returned (.tuple #[.string a, .int .i64 0]) ∧ Below w.heap.size w w') := hide (fun w => by have := c_iMerge s a a w zL zY zY; rw [HM3.out] at this; exact this)
    have K4 : Sec (∀ w, Calls Tryd.prog 9 #[.string s, .string a, .string b] w fun e w' => e = .returned (.tuple #[.string p.1, .int .i64 p.2]) ∧ Below w.heap.size w w') := hide (fun w => by have := c_iMerge s a b w zL zY zZ; rw [HM4.out] at this; exact this)
    have K5 : Sec (∀ w, Calls Tryd.prog 9 #[.string s, .string b, .string a] w fun e w' => e = .returned (.tuple #[.string p.1, .int .i64 p.2]) ∧ Below w.heap.size w w') := hide (fun w => by have := c_iMerge s b a w zL zZ zY; rw [HM5.out] at this; exact this)
    obtain ⟨pt, pc⟩ := p
    go_wp2_with fail
    refine (K1.out _).mono ?_; rintro e w2 ⟨rfl, hb⟩
    have HB2 := hide (bthen HB1.out HB1.out.size hb); clear hb
    go_wp2_with fail
    refine (K2.out _).mono ?_; rintro e w3 ⟨rfl, hb⟩
    have HB3 := hide (bthen HB2.out HB2.out.size hb); clear hb
    go_wp2_with fail
    refine (K3.out _).mono ?_; rintro e w4 ⟨rfl, hb⟩
    have HB4 := hide (bthen HB3.out HB3.out.size hb); clear hb
    go_wp2_with fail
    refine (K4.out _).mono ?_; rintro e w5 ⟨rfl, hb⟩
    have HB5 := hide (bthen HB4.out HB4.out.size hb); clear hb
    go_wp2_with fail
    refine (K5.out _).mono ?_; rintro e w6 ⟨rfl, hb⟩
    have HB6 := hide (bthen HB5.out HB5.out.size hb); clear hb
    have h6 := HM6.out
    rcases h6 with rfl | rfl
    all_goals
      go_wp2
      go_ret
      exact ⟨rfl, HB6.out⟩
end Go.Proofs.YtpmflkoepnanoaaDoor
