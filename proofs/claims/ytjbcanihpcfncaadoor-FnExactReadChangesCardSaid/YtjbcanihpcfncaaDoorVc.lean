/- Contracts: the lines of a text, by both sides. -/
import Derived.Test.YtjbcanihpcfncaaDoorVb
namespace Go.Proofs.YtjbcanihpcfncaaDoor
open Go.RowKit
theorem count_le (s : ByteArray) : s.data.toList.count 10 ≤ s.size := by
  have := List.count_le_length (a := (10 : UInt8)) (l := s.data.toList); rw [Array.length_toList] at this; exact this
theorem c_Split (s : ByteArray) (w : World) (hs : s.size ≤ 1048576) : Calls Tryd.prog 24 #[.string s, .string ⟨#[10]⟩] w fun e w' => ∃ cap, e = .returned (.slice (some ⟨w.heap.size, 0, none⟩) (partsB 10 s).length cap) ∧ OwS 9 w' w.heap.size (.slice (some ⟨w.heap.size, 0, none⟩) (partsB 10 s).length cap) (partsB 10 s) ∧ Below w.heap.size w w' := by
  go_enter Tryd.func24, Tryd.ntmps24
  go_wp2_with fail
  refine (c_genSplit s _ (by omega)).mono ?_; rintro e w1 ⟨cap, rfl, ho, hb⟩
  have HO := hide ho; have HB := hide hb; clear ho hb
  go_wp2
  go_ret
  exact ⟨cap, rfl, HO.out, HB.out⟩
theorem linesF_take (s : ByteArray) : linesF s = (partsB 10 s).take (s.data.toList.count 10) := by
  unfold linesF; rw [List.dropLast_eq_take, length_partsB]; rfl
set_option maxHeartbeats 1000000 in
theorem c_splitLines (s : ByteArray) (w : World) (hs : s.size ≤ 1048576) : Calls Tryd.prog 14 #[.string s] w fun e w' => ∃ v, e = .returned v ∧ OwS 9 w' w.heap.size v (linesF s) ∧ Below w.heap.size w w' := by
  have hl := length_partsB 10 s
  have hlt := linesF_take s
  have hn := count_le s
  generalize hN : s.data.toList.count 10 = N at *
  generalize hP : partsB 10 s = ps at *
  generalize hL : linesF s = ls at *
  have HP := hide hP; have HL := hide hL; have HLT := hide hlt; have HPL := hide hl; clear hP hL hlt hN
  go_enter Tryd.func14, Tryd.ntmps14
  go_wp2_with fail
  refine (c_Split s _ hs).mono ?_; rintro e w1 ⟨cap, rfl, ho, hb⟩
  rw [HP.out] at ho
  rw [HP.out, HPL.out]
  rw [HPL.out] at ho
  have hcp := cap_of ho.rd rfl
  have h1 : ps.length = N + 1 := hl
  have HO := hide ho; have HB := hide hb; clear ho hb hl
  have hcc : N ≤ cap := by omega
  have hc2 : cap ≤ 9223372036854775807 := hcp.2.2
  clear hcp
  go_wp2
  go_ret
  exact ⟨_, rfl, by rw [HLT.out]; exact HO.out.cut (by omega), HB.out⟩
theorem text_last (s : ByteArray) : decide (lastF s = []) = (decide (s = ⟨#[]⟩) || Lib.hasSuffix s.data.toList [10]) := by
  have h := last_suffix s.data.toList
  have h1 : (s.data.toList = []) ↔ s = ⟨#[]⟩ := by
    constructor
    · intro e; apply ByteArray.ext; apply Array.toList_inj.1; exact e
    · rintro rfl; rfl
  rw [h1] at h
  unfold lastF Lib.hasSuffix
  rw [Bool.eq_iff_iff]
  simp only [decide_eq_true_eq, Bool.or_eq_true, List.isSuffixOf_iff_suffix]
  exact h
/-- The state of a split between two bytes. -/
def partI (c : UInt8) (s : ByteArray) (f i : Nat) (out : List ByteArray) : Prop := partsB c s = out ++ (glue ((s.data.toList.drop f).take (i - f)) (partsL c (s.data.toList.drop i))).map mkS
theorem partI_start (c : UInt8) (s : ByteArray) : partI c s 0 0 [] := by
  unfold partI partsB
  have : glue ((s.data.toList.drop 0).take (0 - 0)) (partsL c (s.data.toList.drop 0)) = partsL c s.data.toList := by simp [glue_nil (partsL_ne _ _)]
  rw [this]; rfl
theorem partI_hit {c : UInt8} {s : ByteArray} {f i : Nat} {out : List ByteArray} (h : partI c s f i out) (hb : s.data.toList[i]? = some c) : partI c s (i + 1) (i + 1) (out ++ [s.extract f i]) := by
  have hi := (List.getElem?_eq_some_iff.1 hb).1
  have he := (List.getElem?_eq_some_iff.1 hb).2
  unfold partI at *
  rw [h, List.drop_eq_getElem_cons hi, he, glue_hit, mkS_sub]
  simp
theorem partI_miss {c b : UInt8} {s : ByteArray} {f i : Nat} {out : List ByteArray} (h : partI c s f i out) (hf : f ≤ i) (hb : s.data.toList[i]? = some b) (hc : b ≠ c) : partI c s f (i + 1) out := by
  have hi := (List.getElem?_eq_some_iff.1 hb).1
  have he := (List.getElem?_eq_some_iff.1 hb).2
  unfold partI at *
  rw [h, List.drop_eq_getElem_cons hi, he, glue_miss hc]
  have e : (s.data.toList.drop f).take (i - f) ++ [b] = (s.data.toList.drop f).take (i + 1 - f) := by
    rw [show i + 1 - f = (i - f) + 1 by omega, List.take_add_one, List.getElem?_drop, show f + (i - f) = i by omega, hb]; rfl
  rw [e]
theorem partI_end {c : UInt8} {s : ByteArray} {f : Nat} {out : List ByteArray} (h : partI c s f s.size out) : partsB c s = out ++ [s.extract f s.size] := by
  unfold partI at h
  have e : s.data.toList.drop s.size = [] := List.drop_eq_nil_of_le (by rw [Array.length_toList]; exact Nat.le_refl _)
  rw [h, e, mkS_sub]
  simp [partsL, glue]
theorem partI_len {c : UInt8} {s : ByteArray} {f i : Nat} {out : List ByteArray} (h : partI c s f i out) : out.length ≤ s.size := by
  have h1 := congrArg List.length h
  rw [length_partsB, List.length_append, List.length_map] at h1
  have h2 : s.data.toList.count c ≤ s.size := by have := List.count_le_length (a := c) (l := s.data.toList); rw [Array.length_toList] at this; exact this
  have h3 : 0 < (glue ((s.data.toList.drop f).take (i - f)) (partsL c (s.data.toList.drop i))).length := by
    cases hp : partsL c (s.data.toList.drop i) <;> simp [glue]
  omega
set_option maxHeartbeats 1000000 in
set_option maxRecDepth 20000 in
theorem c_l01Split (c : UInt8) (s : ByteArray) (w : World) (hs : s.size ≤ 1048576) : Calls Tryd.prog 20 #[.string s, .int .u8 (c.toNat : Int)] w fun e w' => ∃ v, e = .returned v ∧ OwS 9 w' w.heap.size v (partsB c s) ∧ Below w.heap.size w w' := by
  have hcc := UInt8.toNat_lt c
  generalize hcn : c.toNat = cn at *
  have HCN := hide hcn; clear hcn
  go_enter Tryd.func20, Tryd.ntmps20
  go_wp2
  go_loopw [5, 6, 7] (fun o fv iv wr => ∃ (f i : Nat) (out : List ByteArray), f ≤ i ∧ i ≤ s.size ∧ fv = .int .i64 (f : Int) ∧ iv = .int .i64 (i : Int) ∧ partI c s f i out ∧ OwS 9 wr w.heap.size o out ∧ Below w.heap.size w wr) (fun _ _ iv _ => s.size - (intOf iv).toNat)
  case atStart => exact ⟨0, 0, [], Nat.le_refl _, Nat.zero_le _, rfl, rfl, partI_start _ _, new_str w, (Below.refl _ _).alloc (Nat.le_refl _) _⟩
  case round =>
    obtain ⟨f, i, out, hfi, his, rfl, rfl, hp, ho, hb⟩ := hrel
    have hpl := partI_len hp
    have HP := hide hp; have HO := hide ho; have HB := hide hb; have hsz := hb.size; clear hp ho hb
    by_cases hlt : i < s.size
    · have hgb : s.data.toList[i]? = some (s.data.toList[i]'(by rw [Array.length_toList]; exact hlt)) := List.getElem?_eq_getElem _
      have hbb : bA s i = (s.data.toList[i]'(by rw [Array.length_toList]; exact hlt)).toNat := by unfold bA; rw [List.getD_eq_getElem?_getD, hgb]; rfl
      have hge := bA_get hlt
      generalize hgg : s.data.toList[i]'(by rw [Array.length_toList]; exact hlt) = b at *
      have HG := hide hgb; clear hgb hgg
      by_cases hbc : bA s i = cn
      · have hb2 : ((bA s i : Int) == (cn : Int)) = true := by rw [hbc]; simp
        have HH := hide (show b = c from UInt8.toNat_inj.1 (by rw [← hbb, hbc, HCN.out])); clear hbc hbb
        rw [← hge] at hb2
        go_wp2_with (at_builtin; refine app1_str (n := s.extract f i) rfl _ _ rfl rfl HO.out rfl (by omega) hsz ?_; intro v1 w1 ho1 hg1 hv1; have hb1 := below_own HB.out HO.out.2 hg1 (Nat.le_refl _) hsz; have HO1 := hide ho1; have HB1 := hide hb1; clear ho1 hb1 hg1 hv1)
        go_roundw
        case rel => exact ⟨i + 1, i + 1, out ++ [s.extract f i], by omega, by omega, by go_num, by go_num, partI_hit HP.out (by rw [HG.out, HH.out]), HO1.out, HB1.out⟩
        case measure => simp [intOf]; omega
      · have hb2 : ((bA s i : Int) == (cn : Int)) = false := by simp; omega
        have HH := hide (show b ≠ c from fun e => hbc (by rw [hbb, e, HCN.out])); clear hbc hbb
        rw [← hge] at hb2
        go_wp2
        go_roundw
        case rel => exact ⟨f, i + 1, out, by omega, by omega, rfl, by go_num, partI_miss HP.out hfi HG.out HH.out, HO.out, HB.out⟩
        case measure => simp [intOf]; omega
    · obtain rfl : i = s.size := by omega
      have HE := hide (partI_end HP.out)
      go_wp2_with (at_builtin; refine app1_str (n := s.extract f s.size) rfl _ _ rfl rfl HO.out rfl (by omega) hsz ?_; intro v1 w1 ho1 hg1 hv1; have hb1 := below_own HB.out HO.out.2 hg1 (Nat.le_refl _) hsz; have HO1 := hide ho1; have HB1 := hide hb1; clear ho1 hb1 hg1 hv1)
      go_ret
      exact ⟨_, rfl, by rw [HE.out]; exact HO1.out, HB1.out⟩
end Go.Proofs.YtjbcanihpcfncaaDoor
