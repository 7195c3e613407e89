/- Contracts: DecodeRice, by both sides. -/
import Derived.Test.YtpmflkoepnanoaaDoorId
import Derived.Test.YtpmflkoepnanoaaDoorSh
import Derived.Test.YtpmflkoepnanoaaDoorDb
import Derived.Shelf.Strings.SlTrimAscii
namespace Go.Proofs.YtpmflkoepnanoaaDoor
open Go.RowKit
theorem dropW_all {l cs : List UInt8} : l.dropWhile (cs.contains ·) = [] ↔ ∀ b ∈ l, b ∈ cs := by
  induction l with
  | nil => simp
  | cons b t ih =>
    by_cases h : cs.contains b = true
    · rw [List.dropWhile_cons_of_pos h, ih]
      simp at h
      simp [h]
    · rw [List.dropWhile_cons_of_neg h]
      simp at h
      simp [h]
theorem dropW_sub {l cs : List UInt8} : ∀ b ∈ l, b ∈ cs ∨ b ∈ l.dropWhile (cs.contains ·) := by
  intro b hb
  have h := List.takeWhile_append_dropWhile (p := (cs.contains ·)) (l := l)
  rw [← h] at hb
  rcases List.mem_append.1 hb with h1 | h1
  · left
    have := List.all_eq_true.1 (List.all_takeWhile (p := (cs.contains ·)) (l := l)) b h1
    simpa using this
  · exact .inr h1
theorem trim_none {l cs : List UInt8} : Lib.trimS l cs = [] ↔ ∀ b ∈ l, b ∈ cs := by
  unfold Lib.trimS Lib.trimLeftS
  rw [dropW_all]
  unfold Lib.trimRightS
  constructor
  · intro h b hb
    rcases dropW_sub (l := l.reverse) (cs := cs) b (by simpa using hb) with h1 | h1
    · exact h1
    · exact h b (by simpa using h1)
  · intro h b hb
    have h1 : b ∈ l.reverse.dropWhile (cs.contains ·) := by simpa using hb
    exact h b (by simpa using List.dropWhile_subset _ h1)
def bitsB (s : ByteArray) : Bool := decide (∀ b ∈ s.data.toList, b = 48 ∨ b = 49)
theorem bitsB_true {s : ByteArray} : bitsB s = true ↔ Bits s.data.toList := by unfold bitsB Bits; simp
theorem trim_bits (s : ByteArray) : (mkS (Lib.trimS s.data.toList [48, 49])).toList.isEmpty = bitsB s := by
  rw [toList_eq, data_mkS]
  have h := trim_none (l := s.data.toList) (cs := [48, 49])
  have e : (Lib.trimS s.data.toList [48, 49]).isEmpty = decide (Lib.trimS s.data.toList [48, 49] = []) := by cases Lib.trimS s.data.toList [48, 49] <;> rfl
  rw [e]
  unfold bitsB
  rw [decide_eq_decide, h]
  simp
theorem c_Trim01 (s : ByteArray) (w : World) (hs : s.size ≤ 1048576) : Calls Tryd.prog 54 #[.string s, .string ⟨#[48, 49]⟩] w fun e w' => e = .returned (.string (mkS (Lib.trimS s.data.toList [48, 49]))) ∧ Below w.heap.size w w' :=
  Any.strings_Trim_laid Tryd.lays160 (by kernel_rfl) s ⟨#[48, 49]⟩ w (by omega) (by decide) (by
    intro j b hb
    have hm := List.mem_of_getElem? hb
    simp at hm
    rcases hm with rfl | rfl <;> decide)
theorem c_isCount (n : Int) (w : World) : Calls Tryd.prog 55 #[.int .i64 n] w fun e w' => e = .returned (.bool (inB n 0 4000)) ∧ w = w' := by
  go_enter Tryd.func55, Tryd.ntmps55
  go_wp2_with (go_at_call 66; refine (c_within _ _ _ _).mono ?_; rintro e w' ⟨rfl, rfl⟩)
  go_ret
  exact ⟨rfl, rfl⟩
/-- What DecodeRice answers: the samples, the bits used, the code. -/
def ricP (s : ByteArray) (n k : Int) : List Int × Int × Int :=
  if bitsB s then (if inB n 0 4000 && inB k 0 30 then ((decF s.data.toList k.toNat n.toNat 0 []).1, ((decF s.data.toList k.toNat n.toNat 0 []).2.1 : Int), (decF s.data.toList k.toNat n.toNat 0 []).2.2) else ([], 0, 2)) else ([], 0, 1)
theorem ricP_len (s : ByteArray) (n k : Int) : (ricP s n k).1.length ≤ 4000 := by
  unfold ricP
  split
  · split
    · next h =>
      simp only [Bool.and_eq_true, inB_true] at h
      have hb := decF_bd (l := s.data.toList) (k := k.toNat) n.toNat 0 [] (Nat.zero_le _) (by simp)
      by_cases h0 : (decF s.data.toList k.toNat n.toNat 0 []).2.2 = 0
      · have := hb.2.2.1 h0; simp at this; simp only; omega
      · have := (hb.2.2.2.1 h0).1; simp only; rw [this]; simp
    · simp
  · simp
set_option maxHeartbeats 1000000 in
set_option maxRecDepth 20000 in
theorem ci_DR (s : ByteArray) (n k : Int) (p : List Int × Int × Int) (w : World) (hs : s.size ≤ 1048576) (hn : -9223372036854775808 ≤ n ∧ n ≤ 9223372036854775807) (hk : -9223372036854775808 ≤ k ∧ k ≤ 9223372036854775807) (hp : ricP s n k = p) :
    Calls Tryd.prog 18 #[.string s, .int .i64 n, .int .i64 k] w fun e w' => ∃ v, e = .returned (.tuple #[v, .int .i64 p.2.1, .int .i64 p.2.2]) ∧ OwI 2 w' w.heap.size v p.1 ∧ Below w.heap.size w w' := by
  subst hp
  have hT := trim_bits s
  generalize hTT : mkS (Lib.trimS s.data.toList [48, 49]) = T at *
  have HTT := hide hTT; clear hTT
  cases hb : bitsB s
  · have hr : ricP s n k = ([], 0, 1) := by unfold ricP; rw [hb]; rfl
    rw [hr]; rw [hb] at hT; clear hr hb
    go_enter Tryd.func18, Tryd.ntmps18
    go_wp2_with fail
    refine (c_Trim01 s _ hs).mono ?_; rintro e w1 ⟨rfl, hb1⟩; rw [HTT.out]
    have HB := hide hb1; clear hb1
    go_wp2
    go_ret3
    exact ⟨_, rfl, OwI.nil_ _ _ _, HB.out⟩
  · have HBT := hide (bitsB_true.1 hb)
    rw [hb] at hT
    by_cases hin : inB n 0 4000 = true ∧ inB k 0 30 = true
    · obtain ⟨h1, h2⟩ := hin
      have h1' := inB_true.1 h1
      have h2' := inB_true.1 h2
      obtain ⟨m, rfl⟩ : ∃ m : Nat, n = m := ⟨n.toNat, by omega⟩
      obtain ⟨q, rfl⟩ : ∃ q : Nat, k = q := ⟨k.toNat, by omega⟩
      have hr : ricP s m q = ((decF s.data.toList q m 0 []).1, ((decF s.data.toList q m 0 []).2.1 : Int), (decF s.data.toList q m 0 []).2.2) := by
        unfold ricP; rw [hb, h1, h2]; simp
      rw [hr]
      have H1 := hide h1; have H2 := hide h2
      clear hr hb h1 h2
      go_enter Tryd.func18, Tryd.ntmps18
      go_wp2_with fail
      refine (c_Trim01 s _ hs).mono ?_; rintro e w1 ⟨rfl, hb1⟩; rw [HTT.out]
      have HB := hide hb1; clear hb1
      go_wp2_with (first | (go_at_call 55; refine (c_isCount _ _).mono ?_; rintro e w' ⟨rfl, rfl⟩; rw [H1.out]) | (go_at_call 51; refine (c_isRice _ _).mono ?_; rintro e w' ⟨rfl, rfl⟩; rw [H2.out]) | (go_at_call 56; refine (c_decodeRice s m q _ HBT.out (by omega) (by omega) (by omega)).mono ?_; rintro e w2 ⟨v2, rfl, ho2, hb2⟩; have HO2 := hide ho2; have HB2 := hide (bthen HB.out HB.out.size hb2); have hs1 := HB.out.size; clear ho2 hb2))
      go_ret3
      exact ⟨_, rfl, HO2.out.more hs1, HB2.out⟩
    · have hr : ricP s n k = ([], 0, 2) := by
        unfold ricP; rw [hb]
        have : (inB n 0 4000 && inB k 0 30) = false := by
          cases h1 : inB n 0 4000 <;> cases h2 : inB k 0 30 <;> simp_all
        rw [this]; rfl
      have hq : inB n 0 4000 = false ∨ (inB n 0 4000 = true ∧ inB k 0 30 = false) := by
        cases h1 : inB n 0 4000 <;> cases h2 : inB k 0 30 <;> simp_all
      rw [hr]; clear hr hb hin
      rcases hq with h1 | ⟨h1, h2⟩
      all_goals
        go_enter Tryd.func18, Tryd.ntmps18
        go_wp2_with fail
        refine (c_Trim01 s _ hs).mono ?_; rintro e w1 ⟨rfl, hb1⟩; rw [HTT.out]
        have HB := hide hb1; clear hb1
        go_wp2_with (first | (go_at_call 55; refine (c_isCount _ _).mono ?_; rintro e w' ⟨rfl, rfl⟩; rw [h1]) | (go_at_call 51; refine (c_isRice _ _).mono ?_; rintro e w' ⟨rfl, rfl⟩; rw [h2]))
        go_ret3
        exact ⟨_, rfl, OwI.nil_ _ _ _, HB.out⟩
end Go.Proofs.YtpmflkoepnanoaaDoor
