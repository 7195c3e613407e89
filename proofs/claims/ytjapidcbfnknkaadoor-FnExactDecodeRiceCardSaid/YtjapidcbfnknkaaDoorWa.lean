/- Contracts: DecodeRice, by both sides. -/
import Derived.Test.YtjapidcbfnknkaaDoorIf
import Derived.Test.YtjapidcbfnknkaaDoorSh
import Derived.Test.YtjapidcbfnknkaaDoorDb
import Derived.Shelf.Strings.SlTrimAscii
namespace Go.Proofs.YtjapidcbfnknkaaDoor
open Go.RowKit
theorem dropW_all {l cs : List UInt8} : l.dropWhile (cs.contains ·) = [] ↔ ∀ b ∈ l, b ∈ cs := by
  induction l with
  | nil => simp
  | cons b t ih =>
    by_cases h : cs.contains b = true
    · rw [List.dropWhile_cons_of_pos h, ih]
      simp at h
      simp [h]
    · rw [List.dropWhile_cons_of_neg h]
      simp at h
      simp [h]
theorem dropW_sub {l cs : List UInt8} : ∀ b ∈ l, b ∈ cs ∨ b ∈ l.dropWhile (cs.contains ·) := by
  intro b hb
  have h := List.takeWhile_append_dropWhile (p := (cs.contains ·)) (l := l)
  rw [← h] at hb
  rcases List.mem_append.1 hb with h1 | h1
  · left
    have := List.all_eq_true.1 (List.all_takeWhile (p := (cs.contains ·)) (l := l)) b h1
    simpa using this
  · exact .inr h1
theorem trim_none {l cs : List UInt8} : Lib.trimS l cs = [] ↔ ∀ b ∈ l, b ∈ cs := by
  unfold Lib.trimS Lib.trimLeftS
  rw [dropW_all]
  unfold Lib.trimRightS
  constructor
  · intro h b hb
    rcases dropW_sub (l := l.reverse) (cs := cs) b (by simpa using hb) with h1 | h1
    · exact h1
    · exact h b (by simpa using h1)
  · intro h b hb
    have h1 : b ∈ l.reverse.dropWhile (cs.contains ·) := by simpa using hb
    exact h b (by simpa using List.dropWhile_subset _ h1)
def bitsB (s : ByteArray) : Bool := decide (∀ b ∈ s.data.toList, b = 48 ∨ b = 49)
theorem bitsB_true {s : ByteArray} : bitsB s = true ↔ Bits s.data.toList := by unfold bitsB Bits; simp
theorem trim_bits (s : ByteArray) : (mkS (Lib.trimS s.data.toList [48, 49])).toList.isEmpty = bitsB s := by
  rw [toList_eq, data_mkS]
  have h := trim_none (l := s.data.toList) (cs := [48, 49])
  have e : (Lib.trimS s.data.toList [48, 49]).isEmpty = decide (Lib.trimS s.data.toList [48, 49] = []) := by cases Lib.trimS s.data.toList [48, 49] <;> rfl
  rw [e]
  unfold bitsB
  rw [decide_eq_decide, h]
  simp
theorem c_Trim01 (s : ByteArray) (w : World) (hs : s.size ≤ 1048576) : Calls Tryd.prog 74 #[.string s, .string ⟨#[48, 49]⟩] w fun e w' => e = .returned (.string (mkS (Lib.trimS s.data.toList [48, 49]))) ∧ Below w.heap.size w w' :=
  Any.strings_Trim_laid Tryd.lays160 (by kernel_rfl) s ⟨#[48, 49]⟩ w (by omega) (by decide) (by
    intro j b hb
    have hm := List.mem_of_getElem? hb
    simp at hm
    rcases hm with rfl | rfl <;> decide)
theorem c_isCount (n : Int) (w : World) : Calls Tryd.prog 75 #[.int .i64 n] w fun e w' => e = .returned (.bool (inB n 0 4000)) ∧ w = w' := by
  go_enter Tryd.func75, Tryd.ntmps75
  go_wp2_with (go_at_call 97; refine (c_within _ _ _ _).mono ?_; rintro e w' ⟨rfl, rfl⟩)
  go_ret
  exact ⟨rfl, rfl⟩
/-- What DecodeRice answers: the samples, the bits used, the code. -/
def ricP (s : ByteArray) (n k : Int) : List Int × Int × Int :=
  if bitsB s then (if inB n 0 4000 && inB k 0 30 then ((decF s.data.toList k.toNat n.toNat 0 []).1, ((decF s.data.toList k.toNat n.toNat 0 []).2.1 : Int), (decF s.data.toList k.toNat n.toNat 0 []).2.2) else ([], 0, 2)) else ([], 0, 1)
theorem ricP_len (s : ByteArray) (n k : Int) : (ricP s n k).1.length ≤ 4000 := by
  unfold ricP
  split
  · split
    · next h =>
      simp only [Bool.and_eq_true, inB_true] at h
      have hb := decF_bd (l := s.data.toList) (k := k.toNat) n.toNat 0 [] (Nat.zero_le _) (by simp)
      by_cases h0 : (decF s.data.toList k.toNat n.toNat 0 []).2.2 = 0
      · have := hb.2.2.1 h0; simp at this; simp only; omega
      · have := (hb.2.2.2.1 h0).1; simp only; rw [this]; simp
    · simp
  · simp
set_option maxHeartbeats 1000000 in
set_option maxRecDepth 20000 in
theorem ci_DR (s : ByteArray) (n k : Int) (p : List Int × Int × Int) (w : World) (hs : s.size ≤ 1048576) (hn : -9223372036854775808 ≤ n ∧ n ≤ 9223372036854775807) (hk : -9223372036854775808 ≤ k ∧ k ≤ 9223372036854775807) (hp : ricP s n k = p) :
    Calls Tryd.prog 30 #[.string s, .int .i64 n, .int .i64 k] w fun e w' => ∃ v, e = .returned (.tuple #[v, .int .i64 p.2.1, .int .i64 p.2.2]) ∧ OwI 2 w' w.heap.size v p.1 ∧ Below w.heap.size w w' := by
  subst hp
  have hT := trim_bits s
  generalize hTT : mkS (Lib.trimS s.data.toList [48, 49]) = T at *
  have HTT := hide hTT; clear hTT
  cases hb : bitsB s
  · have hr : ricP s n k = ([], 0, 1) := by unfold ricP; rw [hb]; rfl
    rw [hr]; rw [hb] at hT; clear hr hb
    go_enter Tryd.func30, Tryd.ntmps30
    go_wp2_with fail
    refine (c_Trim01 s _ hs).mono ?_; rintro e w1 ⟨rfl, hb1⟩; rw [HTT.out]
    have HB := hide hb1; clear hb1
    go_wp2
    go_ret3
    exact ⟨_, rfl, OwI.nil_ _ _ _, HB.out⟩
  · have HBT := hide (bitsB_true.1 hb)
    rw [hb] at hT
    by_cases hin : inB n 0 4000 = true ∧ inB k 0 30 = true
    · obtain ⟨h1, h2⟩ := hin
      have h1' := inB_true.1 h1
      have h2' := inB_true.1 h2
      obtain ⟨m, rfl⟩ : ∃ m : Nat, n = m := ⟨n.toNat, by omega⟩
      obtain ⟨q, rfl⟩ : ∃ q : Nat, k = q := ⟨k.toNat, by omega⟩
      have hr : ricP s m q = ((decF s.data.toList q m 0 []).1, ((decF s.data.toList q m 0 []).2.1 : Int), (decF s.data.toList q m 0 []).2.2) := by
        unfold ricP; rw [hb, h1, h2]; simp
      rw [hr]
      have H1 := hide h1; have H2 := hide h2
      clear hr hb h1 h2
      go_enter Tryd.func30, Tryd.ntmps30
      go_wp2_with fail
      refine (c_Trim01 s _ hs).mono ?_; rintro e w1 ⟨rfl, hb1⟩; rw [HTT.out]
      have HB := hide hb1; clear hb1
      go_wp2_with (first | (go_at_call 75; refine (c_isCount _ _).mono ?_; rintro e w' ⟨rfl, rfl⟩; rw [H1.out]) | (go_at_call 76; refine (c_isRice _ _).mono ?_; rintro e w' ⟨rfl, rfl⟩; rw [H2.out]) | (go_at_call 77; refine (c_decodeRice s m q _ HBT.out (by omega) (by omega) (by omega)).mono ?_; rintro e w2 ⟨v2, rfl, ho2, hb2⟩; have HO2 := hide ho2; have HB2 := hide (bthen HB.out HB.out.size hb2); have hs1 := HB.out.size; clear ho2 hb2))
      go_ret3
      exact ⟨_, rfl, HO2.out.more hs1, HB2.out⟩
    · have hr : ricP s n k = ([], 0, 2) := by
        unfold ricP; rw [hb]
        have : (inB n 0 4000 && inB k 0 30) = false := by
          cases h1 : inB n 0 4000 <;> cases h2 : inB k 0 30 <;> simp_all
        rw [this]; rfl
      have hq : inB n 0 4000 = false ∨ (inB n 0 4000 = true ∧ inB k 0 30 = false) := by
        cases h1 : inB n 0 4000 <;> cases h2 : inB k 0 30 <;> simp_all
      rw [hr]; clear hr hb hin
      rcases hq with h1 | ⟨h1, h2⟩
      all_goals
        go_enter Tryd.func30, Tryd.ntmps30
        go_wp2_with fail
        refine (c_Trim01 s _ hs).mono ?_; rintro e w1 ⟨rfl, hb1⟩; rw [HTT.out]
        have HB := hide hb1; clear hb1
        go_wp2_with (first | (go_at_call 75; refine (c_isCount _ _).mono ?_; rintro e w' ⟨rfl, rfl⟩; rw [h1]) | (go_at_call 76; refine (c_isRice _ _).mono ?_; rintro e w' ⟨rfl, rfl⟩; rw [h2]))
        go_ret3
        exact ⟨_, rfl, OwI.nil_ _ _ _, HB.out⟩
set_option maxHeartbeats 1000000 in
set_option maxRecDepth 20000 in
theorem cs_DR (s : ByteArray) (n k : Int) (p : List Int × Int × Int) (w : World) (hs : s.size ≤ 1048576) (hn : -9223372036854775808 ≤ n ∧ n ≤ 9223372036854775807) (hk : -9223372036854775808 ≤ k ∧ k ≤ 9223372036854775807) (hp : ricP s n k = p) :
    Calls Tryd.prog 29 #[.string s, .int .i64 n, .int .i64 k] w fun e w' => ∃ v, e = .returned (.tuple #[v, .int .i64 p.2.1, .int .i64 p.2.2]) ∧ OwI 2 w' w.heap.size v p.1 ∧ Below w.heap.size w w' := by
  have HP := hide hp; clear hp
  have hll : s.data.toList.length = s.size := Array.length_toList
  have HLL := hide hll; clear hll
  go_enter Tryd.func29, Tryd.ntmps29
  go_wp2
  go_loop [9] (fun iv => ∃ i : Nat, i ≤ s.size ∧ iv = .int .i64 (i : Int) ∧ (∀ b ∈ s.data.toList.take i, b = 48 ∨ b = 49)) (fun iv => s.size - (intOf iv).toNat)
  case atStart => exact ⟨0, Nat.zero_le _, rfl, by simp⟩
  case round =>
    obtain ⟨i, hi, rfl, hall⟩ := hrel
    have HA := hide hall; clear hall
    by_cases hlt : i < s.size
    · have hgb : s.data.toList[i]? = some (s.data.toList[i]'(by rw [HLL.out]; exact hlt)) := List.getElem?_eq_getElem _
      have hbb : bA s i = (s.data.toList[i]'(by rw [HLL.out]; exact hlt)).toNat := by unfold bA; rw [List.getD_eq_getElem?_getD, hgb]; rfl
      have hge := bA_get hlt
      generalize hgg : s.data.toList[i]'(by rw [HLL.out]; exact hlt) = b at *
      have HG := hide hgb; have HBB := hide hbb; clear hgb hgg hbb
      have hcase : ((bA s i : Int) = 48) ∨ ((¬ (bA s i : Int) = 48) ∧ (bA s i : Int) = 49) ∨ ((¬ (bA s i : Int) = 48) ∧ ¬ (bA s i : Int) = 49) := by omega
      have HN : Sec (∀ (h : bA s i = 48 ∨ bA s i = 49), ∀ y ∈ s.data.toList.take (i + 1), y = 48 ∨ y = 49) := hide (by
        intro h y hy
        rw [take_snoc_of HG.out] at hy
        rcases List.mem_append.1 hy with hy | hy
        · exact HA.out y hy
        · simp at hy
          rw [hy]
          rcases h with h | h
          · left; apply UInt8.toNat_inj.1; rw [← HBB.out, h]; rfl
          · right; apply UInt8.toNat_inj.1; rw [← HBB.out, h]; rfl)
      rcases hcase with h1 | ⟨h1, h2⟩ | ⟨h1, h2⟩
      · have HE := hide (show bA s i = 48 by omega)
        go_wp2
        go_round
        case rel => exact ⟨i + 1, by omega, by go_num, HN.out (.inl HE.out)⟩
        case measure => simp [intOf]; omega
      · have HE := hide (show bA s i = 49 by omega)
        have h1b : ((49 : Int) != 48) = true := rfl
        clear h1
        go_wp2
        go_round
        case rel => exact ⟨i + 1, by omega, by go_num, HN.out (.inr HE.out)⟩
        case measure => simp [intOf]; omega
      · have hbf : bitsB s = false := by
          rw [Bool.eq_false_iff]
          intro h
          have := bitsB_true.1 h b (List.mem_of_getElem? HG.out)
          have hb2 := HBB.out
          rcases this with rfl | rfl
          · exact h1 (by rw [hb2]; rfl)
          · exact h2 (by rw [hb2]; rfl)
        have hr : p = ([], 0, 1) := by rw [← HP.out]; unfold ricP; rw [hbf]; rfl
        subst hr
        have h1b : ((bA s i : Int) != 48) = true := by simpa using h1
        have h2b : ((bA s i : Int) != 49) = true := by simpa using h2
        clear hbf
        go_wp2
        go_ret3
        exact ⟨_, rfl, OwI.nil_ _ _ _, Below.refl _ _⟩
    · have hbits : Bits s.data.toList := by
        have := HA.out
        rw [List.take_of_length_le (by rw [HLL.out]; omega)] at this
        exact this
      have hb := bitsB_true.2 hbits
      have HBT := hide hbits; clear hbits
      by_cases hin : inB n 0 4000 = true ∧ inB k 0 30 = true
      · obtain ⟨h1, h2⟩ := hin
        have h1' := inB_true.1 h1
        have h2' := inB_true.1 h2
        obtain ⟨m, rfl⟩ : ∃ m : Nat, n = m := ⟨n.toNat, by omega⟩
        obtain ⟨q, rfl⟩ : ∃ q : Nat, k = q := ⟨k.toNat, by omega⟩
        have hr : ricP s m q = ((decF s.data.toList q m 0 []).1, ((decF s.data.toList q m 0 []).2.1 : Int), (decF s.data.toList q m 0 []).2.2) := by
          unfold ricP; rw [hb, h1, h2]; simp
        have hp2 := HP.out
        rw [hr] at hp2
        have HP2 := hide hp2
        have H1 := hide h1; have H2 := hide h2
        clear hr hb h1 h2 hp2
        go_wp2_with (first | (go_at_call 72; refine (c_l00In _ _ _ _).mono ?_; rintro e w' ⟨rfl, rfl⟩; first | rw [H1.out] | rw [H2.out]) | (go_at_call 73; refine (c_l29Decode s m q _ HBT.out (by omega) (by omega) (by omega)).mono ?_; rintro e w2 ⟨v2, rfl, ho2, hb2⟩; have HO2 := hide ho2; have HB2 := hide hb2; clear ho2 hb2))
        go_ret3
        rw [← HP2.out]
        exact ⟨_, rfl, HO2.out, HB2.out⟩
      · have hr : p = ([], 0, 2) := by
          rw [← HP.out]
          unfold ricP; rw [hb]
          have : (inB n 0 4000 && inB k 0 30) = false := by
            cases h1 : inB n 0 4000 <;> cases h2 : inB k 0 30 <;> simp_all
          rw [this]; rfl
        have hq : inB n 0 4000 = false ∨ (inB n 0 4000 = true ∧ inB k 0 30 = false) := by
          cases h1 : inB n 0 4000 <;> cases h2 : inB k 0 30 <;> simp_all
        subst hr; clear hb hin
        rcases hq with h1 | ⟨h1, h2⟩
        all_goals
          go_wp2_with (go_at_call 72; refine (c_l00In _ _ _ _).mono ?_; rintro e w' ⟨rfl, rfl⟩; first | rw [h1] | rw [h2])
          go_ret3
          exact ⟨_, rfl, OwI.nil_ _ _ _, Below.refl _ _⟩
end Go.Proofs.YtjapidcbfnknkaaDoor
