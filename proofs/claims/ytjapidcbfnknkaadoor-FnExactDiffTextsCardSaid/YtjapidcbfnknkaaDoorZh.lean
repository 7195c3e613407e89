/- Contract: the changes from a text to another one, by both sides. -/
import Derived.Test.YtjapidcbfnknkaaDoorZf
import Derived.Test.YtjapidcbfnknkaaDoorZg
import Derived.Test.YtjapidcbfnknkaaDoorVf
import Derived.Test.YtjapidcbfnknkaaDoorXe
namespace Go.Proofs.YtjapidcbfnknkaaDoor
open Go.RowKit
def dtF (a b : ByteArray) : List Chg × Int := if textB a && textB b then (diffF 0 (linesF a) (linesF b), 0) else ([], 1)
theorem text_len {s : ByteArray} (h : textB s = true) : (linesF s).length ≤ 200 := by simp [textB] at h; exact h.2
theorem dtF_len (a b : ByteArray) : (dtF a b).1.length ≤ 400 := by
  unfold dtF
  split
  · next h =>
    simp only [Bool.and_eq_true] at h
    have h1 := text_len h.1; have h2 := text_len h.2
    have := length_diffF 0 (linesF a) (linesF b)
    show (diffF 0 (linesF a) (linesF b)).length ≤ 400
    omega
  · simp
set_option maxHeartbeats 1000000 in
theorem c_iDT (a b : ByteArray) (w : World) (ha : a.size ≤ 1048576) (hb : b.size ≤ 1048576) :
    Calls Tryd.prog 21 #[.string a, .string b] w fun e w' => ∃ v', e = .returned (.tuple #[v', .int .i64 (dtF a b).2]) ∧ OwC 80 w' w.heap.size v' (dtF a b).1 ∧ Below w.heap.size w w' := by
  cases hta : textB a
  · have hf : dtF a b = ([], 1) := by unfold dtF; rw [hta]; rfl
    rw [hf]
    have HA := hide hta; clear hta hf
    go_enter Tryd.func21, Tryd.ntmps21
    go_wp2_with fail
    refine (c_isText a _ ha).mono ?_; rintro e w1 ⟨rfl, rfl⟩; rw [HA.out]
    go_wp2
    go_ret2
    exact ⟨_, rfl, OwG.nil_ chgV_len _ _ _, Below.refl _ _⟩
  · cases htb : textB b
    · have hf : dtF a b = ([], 1) := by unfold dtF; rw [hta, htb]; rfl
      rw [hf]
      have HA := hide hta; have HT := hide htb; clear hta htb hf
      go_enter Tryd.func21, Tryd.ntmps21
      go_wp2_with fail
      refine (c_isText a _ ha).mono ?_; rintro e w1 ⟨rfl, rfl⟩; rw [HA.out]
      go_wp2_with fail
      refine (c_isText b _ hb).mono ?_; rintro e w1 ⟨rfl, rfl⟩; rw [HT.out]
      go_wp2
      go_ret2
      exact ⟨_, rfl, OwG.nil_ chgV_len _ _ _, Below.refl _ _⟩
    · have hf : dtF a b = (diffF 0 (linesF a) (linesF b), 0) := by unfold dtF; rw [hta, htb]; rfl
      rw [hf]
      have hla := text_len hta; have hlb := text_len htb
      have HA := hide hta; have HT := hide htb; clear hta htb hf
      have HLA := hide (c_lines2 a · ha); have HLB := hide (c_lines2 b · hb)
      generalize linesF a = la at *
      generalize linesF b = lb at *
      go_enter Tryd.func21, Tryd.ntmps21
      go_wp2_with fail
      refine (c_isText a _ ha).mono ?_; rintro e w1 ⟨rfl, rfl⟩; rw [HA.out]
      go_wp2_with fail
      refine (c_isText b _ hb).mono ?_; rintro e w1 ⟨rfl, rfl⟩; rw [HT.out]
      go_wp2_with fail
      refine (HLA.out _).mono ?_; rintro e w2 ⟨cap1, hc1, rfl, ho1, hb1⟩
      have hs1 := hb1.size
      have HO1 := hide ho1; have HB1 := hide hb1; clear ho1 hb1
      go_wp2_with fail
      refine (HLB.out _).mono ?_; rintro e w3 ⟨cap2, hc2, rfl, ho2, hb2⟩
      have hs2 := hb2.size
      have HO2 := hide ho2; have HO3 := hide (HO1.out.all hb2); have HB2 := hide (bthen HB1.out hs1 hb2); clear ho2 hb2
      go_wp2_with fail
      refine (c_diff _ _ la lb _ HO3.out.rd HO2.out.rd hla hlb).mono ?_; rintro e w4 ⟨vd, rfl, ho4, hb4⟩
      have HO4 := hide ho4; have HB4 := hide (bthen HB2.out (by omega) hb4); clear ho4 hb4
      go_wp2
      go_ret2
      exact ⟨_, rfl, HO4.out.more (by omega), HB4.out⟩
set_option maxHeartbeats 1000000 in
theorem c_sDT (a b : ByteArray) (w : World) (ha : a.size ≤ 1048576) (hb : b.size ≤ 1048576) :
    Calls Tryd.prog 20 #[.string a, .string b] w fun e w' => ∃ v', e = .returned (.tuple #[v', .int .i64 (dtF a b).2]) ∧ OwC 80 w' w.heap.size v' (dtF a b).1 ∧ Below w.heap.size w w' := by
  have hla : textB a = true → (linesF a).length ≤ 200 := text_len
  have hlb : textB b = true → (linesF b).length ≤ 200 := text_len
  have hf : dtF a b = if textB a && textB b then (diffF 0 (if textB a then linesF a else []) (if textB b then linesF b else []), 0) else ([], 1) := by
    unfold dtF
    cases textB a <;> cases textB b <;> rfl
  rw [hf]
  clear hf
  have hla2 : (if textB a then linesF a else []).length ≤ 200 := by
    split
    · next h => exact hla h
    · simp
  have hlb2 : (if textB b then linesF b else []).length ≤ 200 := by
    split
    · next h => exact hlb h
    · simp
  have HLA := hide (fun W => cs_L a _ _ W ha ⟨rfl, rfl⟩); have HLB := hide (fun W => cs_L b _ _ W hb ⟨rfl, rfl⟩)
  clear hla hlb
  generalize (if textB a then linesF a else []) = la at *
  generalize (if textB b then linesF b else []) = lb at *
  generalize textB a = ta at *
  generalize textB b = tb at *
  cases ta <;> cases tb
  case true.true =>
    go_enter Tryd.func20, Tryd.ntmps20
    go_wp2_with fail
    refine (HLA.out _).mono ?_; rintro e w2 ⟨v1, rfl, ho1, hb1⟩
    have hs1 := hb1.size
    have HO1 := hide ho1; have HB1 := hide hb1; clear ho1 hb1
    go_wp2_with fail
    refine (HLB.out _).mono ?_; rintro e w3 ⟨v2, rfl, ho2, hb2⟩
    have hs2 := hb2.size
    have HO2 := hide ho2; have HO3 := hide (HO1.out.all hb2); have HB2 := hide (bthen HB1.out hs1 hb2); clear ho2 hb2
    go_wp2_with fail
    refine (c_l32Diff _ _ la lb _ HO3.out.rd HO2.out.rd hla2 hlb2).mono ?_; rintro e w4 ⟨vd, rfl, ho4, hb4⟩
    have HO4 := hide ho4; have HB4 := hide (bthen HB2.out (by omega) hb4); clear ho4 hb4
    go_wp2
    go_ret2
    exact ⟨_, rfl, HO4.out.more (by omega), HB4.out⟩
  all_goals
    go_enter Tryd.func20, Tryd.ntmps20
    go_wp2_with fail
    refine (HLA.out _).mono ?_; rintro e w2 ⟨v1, rfl, ho1, hb1⟩
    have hs1 := hb1.size
    have HB1 := hide hb1; clear ho1 hb1
    go_wp2_with fail
    refine (HLB.out _).mono ?_; rintro e w3 ⟨v2, rfl, ho2, hb2⟩
    have HB2 := hide (bthen HB1.out hs1 hb2); clear ho2 hb2
    go_wp2
    go_ret2
    exact ⟨_, rfl, OwG.nil_ chgV_len _ _ _, HB2.out⟩
end Go.Proofs.YtjapidcbfnknkaaDoor
