/- Contracts: the lines of a text by the reference; marks in slices of strings. -/
import Derived.Test.YtjapidcbfnknkaaDoorVc
import Derived.Test.YtjapidcbfnknkaaDoorTd
namespace Go.Proofs.YtjapidcbfnknkaaDoor
open Go.RowKit
theorem c_split10 (s : ByteArray) (w : World) (hs : s.size ≤ 1048576) : Calls Tryd.prog 102 #[.string s, .int .u8 10] w fun e w' => ∃ v, e = .returned v ∧ OwS 9 w' w.heap.size v (partsB 10 s) ∧ Below w.heap.size w w' := c_l01Split 10 s w hs
theorem parts_last (s : ByteArray) : (partsB 10 s)[s.data.toList.count 10]? = some (mkS (lastF s)) := by
  unfold partsB lastF
  rw [List.getElem?_map]
  have h := length_partsL 10 s.data.toList
  rw [List.getLast_eq_getElem, List.getElem?_eq_getElem (by omega)]
  simp only [h, Nat.add_sub_cancel, Option.map_some]
theorem empty_mkS (l : List UInt8) : (mkS l).toList.isEmpty = decide (l = []) := by
  rw [toList_eq, data_mkS]; cases l <;> rfl
set_option maxHeartbeats 1000000 in
set_option maxRecDepth 20000 in
theorem c_l32Lines (s : ByteArray) (w : World) (hs : s.size ≤ 1048576) : Calls Tryd.prog 53 #[.string s] w fun e w' => ∃ v, e = .returned (.tuple #[v, .bool (decide (lastF s = []))]) ∧ OwS 9 w' w.heap.size v (linesF s) ∧ Below w.heap.size w w' := by
  have hl := length_partsB 10 s
  have hlt := linesF_take s
  have hn := count_le s
  have hla := parts_last s
  have hem := empty_mkS (lastF s)
  generalize hN : s.data.toList.count 10 = N at *
  generalize hP : partsB 10 s = ps at *
  generalize hL : linesF s = ls at *
  generalize hX : mkS (lastF s) = x at *
  generalize hB : decide (lastF s = []) = B at *
  have HP := hide hP; have HL := hide hL; have HLT := hide hlt; have HPL := hide hl; have HLA := hide hla; clear hP hL hlt hN hX hB hla
  go_enter Tryd.func53, Tryd.ntmps53
  go_wp2_with fail
  refine (c_split10 s _ hs).mono ?_; rintro e w1 ⟨v, rfl, ho, hb⟩
  rw [HP.out] at ho
  obtain ⟨g, cap, rfl, hcap, hg, hgs⟩ := ho.form (by omega)
  have hcl := ho.cellN HLA.out (j := 0) (u := .string x) rfl
  rw [Nat.mul_one, Nat.add_zero] at hcl
  have hcp := (cap_of ho.rd rfl).2.2
  rw [hl] at ho hcap
  have hwr : IntKind.i64.wrap (N : Int) = (N : Int) := IntWalk.i64_in _ (by omega)
  have HO := hide ho; have HB := hide hb; clear ho hb
  have hx0 : ps.length = N + 1 := hl
  rw [hx0]
  clear hl hx0
  go_wp2
  go_quiet (fail)
  go_wp2
  go_ret2
  exact ⟨_, rfl, by rw [HLT.out]; exact HO.out.cut (by rw [HPL.out]; omega), below_drewN HB.out _⟩
set_option maxHeartbeats 1000000 in
theorem c_sLines (s : ByteArray) (w : World) (hs : s.size ≤ 1048576) : Calls Tryd.prog 12 #[.string s] w fun e w' => ∃ v, e = .returned (.tuple #[v, .bool (textB s)]) ∧ OwS 9 w' w.heap.size v (if textB s then linesF s else []) ∧ Below w.heap.size w w' := by
  have ht : textB s = (decide (lastF s = []) && decide ((linesF s).length ≤ 200)) := rfl
  generalize hB : decide (lastF s = []) = B at *
  generalize hL : linesF s = ls at *
  generalize hT : textB s = T at *
  have HB' := hide hB; have HL := hide hL; have HT := hide ht; clear hB hL ht hT
  have hv : ls.length ≤ 1048576 := by rw [← HL.out, length_linesF]; have := count_le s; omega
  cases B
  · have hT : T = false := by rw [HT.out]; rfl
    subst hT
    go_enter Tryd.func12, Tryd.ntmps12
    go_wp2_with fail
    refine (c_l32Lines s _ hs).mono ?_; rintro e w1 ⟨v, rfl, ho, hb⟩; rw [HB'.out]
    have HB := hide hb; clear ho hb
    go_wp2
    go_ret2
    exact ⟨_, rfl, OwG.nil_ strV_len _ _ _, HB.out⟩
  · by_cases h2 : 200 < ls.length
    · have hT : T = false := by rw [HT.out]; simp; omega
      subst hT
      go_enter Tryd.func12, Tryd.ntmps12
      go_wp2_with fail
      refine (c_l32Lines s _ hs).mono ?_; rintro e w1 ⟨v, rfl, ho, hb⟩; rw [HB'.out]
      rw [HL.out] at ho
      obtain ⟨A, cap, rfl, hc1, hc2, _⟩ := ho.rd.open_
      have HB := hide hb; clear ho hb
      go_wp2
      go_ret2
      exact ⟨_, rfl, OwG.nil_ strV_len _ _ _, HB.out⟩
    · have hT : T = true := by rw [HT.out]; simp; omega
      subst hT
      go_enter Tryd.func12, Tryd.ntmps12
      go_wp2_with fail
      refine (c_l32Lines s _ hs).mono ?_; rintro e w1 ⟨v, rfl, ho, hb⟩; rw [HB'.out]
      rw [HL.out] at ho
      have HO := hide ho
      obtain ⟨A, cap, rfl, hc1, hc2, _⟩ := ho.rd.open_
      have HB := hide hb; clear ho hb
      go_wp2
      go_ret2
      exact ⟨_, rfl, HO.out, HB.out⟩
/-- The text of a mark. -/
def mrkB (k : Nat) : ByteArray := mkS (109 :: preD k)
theorem str_of0 {w : World} {v : Value} {bs : List UInt8} (h : RdY w v bs) : (convert 28 9 v).run Tryd.prog w = .ok (.string (mkS bs)) w :=
  run_str Tryd.underlying28 Tryd.underlying5 Tryd.underlying9 h
theorem byte_cell (n : Nat) (h : n < 256) (w : World) : RdY (w.alloc (.cells #[.int .u8 (n : Int)] 5)) (.slice (some ⟨w.heap.size, 0, none⟩) 1 1) [UInt8.ofNat n] := by
  have e1 : ((UInt8.ofNat n).toNat : Int) = (n : Int) := by rw [UInt8.toNat_ofNat_of_lt' (by exact h)]
  have := World.ownsRow_lit (base := w.heap.size) (e := 5) (size := 1) w #[.int .u8 (n : Int)] 1 (Nat.le_refl _) (by decide) rfl
  refine OwY.rd (E := 5) (B := w.heap.size) ?_
  unfold OwY
  simp only [List.length_cons, List.length_nil, List.map_cons, List.map_nil, e1]
  exact this
set_option maxHeartbeats 1000000 in
set_option maxRecDepth 20000 in
theorem c_markText (k : Nat) (w : World) (h0 : 0 < k) (hk : k ≤ 4611686018427387904) : Calls Tryd.prog 56 #[.int .i64 (k : Int)] w fun e w' => e = .returned (.string (mrkB k)) ∧ Below w.heap.size w w' := by
  have hkk : ¬ (k : Int) ≤ 0 := by omega
  go_enter Tryd.func56, Tryd.ntmps56
  go_wp2
  go_loopw [0, 3] (fun kv o wr => ∃ (m : Nat) (l : List UInt8), m ≤ k ∧ kv = .int .i64 (m : Int) ∧ o = .string (mkS l) ∧ preD k = preD m ++ l ∧ Below w.heap.size w wr) (fun kv _ _ => (intOf kv).toNat)
  case atStart => exact ⟨k, [], Nat.le_refl _, rfl, rfl, by simp, Below.refl _ _⟩
  case round =>
    obtain ⟨m, l, hm, rfl, rfl, hp, hb⟩ := hrel
    have hll : (mkS l).size ≤ 19 := by have h1 := congrArg List.length hp; have h2 := preD_len 19 k (by omega); rw [List.length_append] at h1; rw [size_mkS]; omega
    have HP := hide hp; have HB := hide hb; clear hp hb
    by_cases hz : 0 < m
    · have hmod : (m : Int) % 10 = ((m % 10 : Nat) : Int) := by omega
      have hdiv : (m : Int) / 10 = ((m / 10 : Nat) : Int) := by omega
      have hd : m % 10 < 10 := Nat.mod_lt _ (by omega)
      have HS := hide (preD_step (u := m) (by omega))
      generalize hdd : m % 10 = d at *
      have hq : m / 10 < m := by omega
      generalize hqq : m / 10 = q at *
      have hcv : ∀ W : World, (convert 28 9 (.slice (some ⟨W.heap.size, 0, none⟩) 1 1)).run Tryd.prog (W.alloc (.cells #[.int .u8 (48 + (d : Int))] 5)) = .ok (.string (mkS [UInt8.ofNat (48 + d)])) (W.alloc (.cells #[.int .u8 (48 + (d : Int))] 5)) := fun W => str_of0 (byte_cell (48 + d) (by omega) W)
      have happ : mkS [UInt8.ofNat (48 + d)] ++ mkS l = mkS ([UInt8.ofNat (48 + d)] ++ l) := mkS_append _ _
      generalize hcc : UInt8.ofNat (48 + d) = c at *
      have h1s : (mkS [c]).size = 1 := size_mkS _
      have HA := hide happ; clear happ hcc
      clear hdd hqq
      go_wp2
      go_roundw
      case rel => exact ⟨q, [c] ++ l, by omega, by go_num, by rw [HA.out], by rw [HP.out, HS.out]; simp, HB.out.alloc HB.out.size _⟩
      case measure => simp [intOf]; omega
    · have hl : preD k = l := by have := HP.out; rw [this, show m = 0 by omega]; simp [preD]
      have hz2 : ¬ (0 : Int) < (m : Int) := by omega
      have happ : mkS [109] ++ mkS l = mrkB k := by rw [mkS_append, mrkB, hl]; rfl
      have HA := hide happ; clear happ
      have h1s : (⟨#[109]⟩ : ByteArray).size = 1 := rfl
      go_wp2
      go_ret
      exact ⟨ret_str (by rw [← HA.out]; rfl), HB.out⟩
/-- The texts with which a slice of strings is marked. -/
def mrks (k n : Nat) : List ByteArray := (List.range n).map fun i => mrkB (k + i)
theorem length_mrks (k n : Nat) : (mrks k n).length = n := by simp [mrks]
theorem mrks_at {k n i : Nat} (h : i < n) : (mrks k n)[i]? = some (mrkB (k + i)) := by simp [mrks, h]
set_option maxHeartbeats 1000000 in
set_option maxRecDepth 20000 in
theorem c_markStringS (B : Nat) (v : Value) (xs : List ByteArray) (m : Nat) (w : World) (ho : OwS 9 w B v xs) (h0 : 0 < m) (hm : m + xs.length ≤ 4611686018427387904) (hB : B ≤ w.heap.size) :
    Calls Tryd.prog 15 #[v, .int .i64 m] w fun e w' => e = .returned (.int .i64 ((m + xs.length : Nat) : Int)) ∧ OwS 9 w' B v (mrks m xs.length) ∧ Below B w w' := by
  rcases Nat.eq_zero_or_pos xs.length with hz | hz
  · have hx : xs = [] := List.eq_nil_of_length_eq_zero hz
    subst hx
    obtain ⟨A, cap, rfl, hl, hc, _⟩ := ho.rd.open_
    have HO := hide ho; clear ho hz
    simp only [List.length_nil] at *
    go_enter Tryd.func15, Tryd.ntmps15
    go_wp2
    refine wp_loop_rounds 1 ?_
    rw [rounds_succ]
    go_wp2
    go_ret
    exact ⟨by simp, by simpa [mrks] using HO.out, Below.refl _ _⟩
  · obtain ⟨g, cap, rfl, hl, hg, hgw⟩ := ho.form hz
    have HO := hide ho; clear ho
    go_enter Tryd.func15, Tryd.ntmps15
    go_wp2
    go_loopw [1, 5] (fun t i wr => ∃ k : Nat, k ≤ xs.length ∧ i = .int .i64 k ∧ t = .int .i64 ((m + k : Nat) : Int) ∧ OwS 9 wr B (.slice (some ⟨g, 0, none⟩) xs.length cap) ((mrks m xs.length).take k ++ xs.drop k) ∧ Below B w wr) (fun _ i _ => xs.length - (intOf i).toNat)
    case atStart => exact ⟨0, Nat.zero_le _, rfl, rfl, by simpa using HO.out, Below.refl _ _⟩
    case round =>
      obtain ⟨k, hk, rfl, rfl, ho, hb⟩ := hrel
      have HO := hide ho; have HB := hide hb; have hsz : B ≤ wr.heap.size := Nat.le_trans hB hb.size; clear ho hb
      by_cases hlt : k < xs.length
      · have HM := hide (getElem?_mix (length_mrks m xs.length) hlt)
        have HX := hide (List.getElem?_eq_getElem hlt)
        have HSM := hide (set_mix (length_mrks m xs.length) (mrks_at (k := m) hlt))
        generalize xs[k] = x at *
        go_wp2_with (go_at_call 56; refine (c_markText (m + k) _ (by omega) (by omega)).mono ?_; rintro e w2 ⟨rfl, hb2⟩; have ho2 := HO.out.all hb2; have HB2 := hide (bthen HB.out hsz hb2); have hk2 := ho2.cellN (HM.out.trans HX.out) (j := 0) rfl; rw [Nat.mul_one, Nat.add_zero] at hk2; have hk3 := ho2.freeN k; have HO2 := hide ho2; clear ho2 hb2)
        go_roundw
        case rel => exact ⟨k + 1, by omega, by go_num, by go_num, by have := (OwS_set HO2.out k (mrkB (m + k))).1; rw [HSM.out] at this; exact this, HB2.out.setCell hg _⟩
        case measure => simp [intOf]; omega
      · go_wp2
        go_ret
        have : k = xs.length := by omega
        subst this
        exact ⟨rfl, by have := HO.out; rw [List.take_of_length_le (by simp [length_mrks]), List.drop_length, List.append_nil] at this; exact this, HB.out⟩
end Go.Proofs.YtjapidcbfnknkaaDoor
