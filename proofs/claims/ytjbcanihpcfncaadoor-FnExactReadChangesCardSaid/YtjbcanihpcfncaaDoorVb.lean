/- Contract: the parts of a text, by the library. -/
import Derived.Test.YtjbcanihpcfncaaDoorVa
namespace Go.Proofs.YtjbcanihpcfncaaDoor
open Go.RowKit
theorem partsB_hit {s : ByteArray} (h : fstI 10 s.data.toList < s.size) : partsB 10 s = s.extract 0 (fstI 10 s.data.toList) :: partsB 10 (s.extract (fstI 10 s.data.toList + 1) s.size) := by
  have hl : s.data.toList.length = s.size := Array.length_toList
  unfold partsB
  have e : (s.data.toList.drop (fstI 10 s.data.toList + 1)).take (s.size - (fstI 10 s.data.toList + 1)) = s.data.toList.drop (fstI 10 s.data.toList + 1) := List.take_of_length_le (by rw [List.length_drop, hl]; omega)
  rw [partsL_cut, if_pos (by rw [hl]; exact h), List.map_cons, mkS_take, mkS_sub, data_mkS, e]
theorem partsB_miss {s : ByteArray} (h : ¬ fstI 10 s.data.toList < s.size) : partsB 10 s = [s] := by
  have hl : s.data.toList.length = s.size := Array.length_toList
  unfold partsB
  rw [partsL_cut, if_neg (by rw [hl]; exact h), List.map_cons, List.map_nil, mkS_data]
theorem rep_set {d : List ByteArray} {n i : Nat} (x : ByteArray) (h : d.length = i) (hi : i < n) : (d ++ List.replicate (n - i) ByteArray.empty).set i x = (d ++ [x]) ++ List.replicate (n - (i + 1)) ByteArray.empty := by
  subst h
  rw [List.set_append_right _ _ (Nat.le_refl _), Nat.sub_self]
  have : n - d.length = (n - (d.length + 1)) + 1 := by omega
  rw [this, List.replicate_succ, List.set_cons_zero]
  simp
set_option maxRecDepth 20000 in
set_option maxHeartbeats 2000000 in
theorem c_genSplit (s : ByteArray) (w : World) (hs : s.size ≤ 4294967280) : Calls Tryd.prog 32 #[.string s, .string ⟨#[10]⟩, .int .i64 0, .int .i64 (-1)] w fun e w' => ∃ cap, e = .returned (.slice (some ⟨w.heap.size, 0, none⟩) (partsB 10 s).length cap) ∧ OwS 9 w' w.heap.size (.slice (some ⟨w.heap.size, 0, none⟩) (partsB 10 s).length cap) (partsB 10 s) ∧ Below w.heap.size w w' := by
  have hcl : s.data.toList.count 10 ≤ s.size := by have := List.count_le_length (a := (10 : UInt8)) (l := s.data.toList); rw [Array.length_toList] at this; exact this
  have hpl := length_partsB 10 s
  generalize hN : s.data.toList.count 10 = N at *
  have hcnt : Lib.countByte s.data.toList 10 = N := hN
  have hmin : (if (N : Int) + 1 ≤ (s.size : Int) + 1 then (N : Int) + 1 else (s.size : Int) + 1) = (N : Int) + 1 := if_pos (by omega)
  obtain ⟨i0, hi, hz0, hz1, hz2⟩ := info_parts info_str
  have HP := hide hpl; have HN := hide hN; clear hpl hN
  have hne : ((⟨#[10]⟩ : ByteArray).toList == (⟨#[]⟩ : ByteArray).toList) = false := by rw [str_eq]; exact decide_eq_false (fun e => by have := congrArg ByteArray.size e; simp [ByteArray.size] at this)
  go_enter Tryd.func32, Tryd.ntmps32
  go_wp2_with fail
  refine (Tryd.strings_Count_one s 10 _).mono ?_; rintro e w' ⟨rfl, rfl⟩; rw [hcnt]
  go_wp2_with (at_make; refine wpList_make_full _ rfl _ _ _ rfl w'.heap.size 9 i0 _ 1 Tryd.underlying28 hi hz0 hz1 .i64 .i64 _ _ (N + 1) rfl rfl (by first | rfl | omega) (by first | rfl | omega) (by rw [hz2]; omega) (by unfold maxLen; omega) (Nat.le_refl _) ?_; intro w1 hown1 hg1)
  have ho1 : OwS 9 w1 w'.heap.size _ _ := OwG.made strV_len (by omega) ByteArray.empty rfl hown1
  have hb1 : Below w'.heap.size w' w1 := (Below.refl _ _).grown hg1 (Nat.le_refl _) (by simp)
  have HO := hide ho1; have HB := hide hb1; clear ho1 hb1 hown1 hg1
  go_loopw [0, 10] (fun t iv wr => ∃ (i : Nat) (sk : ByteArray) (d : List ByteArray), i ≤ N ∧ t = .string sk ∧ iv = .int .i64 (i : Int) ∧ d.length = i ∧ partsB 10 s = d ++ partsB 10 sk ∧ sk.size ≤ s.size ∧ OwS 9 wr w'.heap.size (.slice (some ⟨w'.heap.size, 0, none⟩) (N + 1) (N + 1)) (d ++ List.replicate (N + 1 - i) ByteArray.empty) ∧ Below w'.heap.size w' wr) (fun _ iv _ => N - (intOf iv).toNat)
  case atStart => exact ⟨0, s, [], Nat.zero_le _, rfl, rfl, rfl, by simp, Nat.le_refl _, by simpa using HO.out, HB.out⟩
  case round =>
    obtain ⟨i, sk, d, hiN, rfl, rfl, hd, hpp, hsk, ho, hb⟩ := hrel
    have hc2 : sk.data.toList.count 10 + i = N := by
      have h1 := HP.out
      rw [hpp, List.length_append, length_partsB, hd] at h1; omega
    have HD := hide hd; have HPP := hide hpp; have HO := hide ho; have HB := hide hb; clear hd hpp ho hb
    have hcf := count_fst (c := 10) (l := sk.data.toList)
    have hll : sk.data.toList.length = sk.size := Array.length_toList
    rw [hll] at hcf
    have hfi := fst_idx 10 sk.data.toList
    rw [hll] at hfi
    by_cases hlt : i < N
    · have hm : fstI 10 sk.data.toList < sk.size := by
        by_cases h : fstI 10 sk.data.toList < sk.size
        · exact h
        · rw [if_neg h] at hcf; omega
      have hix := hfi.1 hm
      have HPH := hide (partsB_hit hm)
      generalize hM : fstI 10 sk.data.toList = m at *
      have HCF := hide hcf; have HFI := hide hfi; have HM := hide hM; have HC2 := hide hc2; clear hcf hfi hM hc2 hll
      have hq2 : wr.cell? ⟨w'.heap.size, i, none⟩ = some (.string ByteArray.empty) := by
        have := HO.out.cellN (k := i) (j := 0) (x := ByteArray.empty) (u := .string ByteArray.empty) (by rw [List.getElem?_append_right (by rw [HD.out]; omega), HD.out, Nat.sub_self, List.getElem?_replicate, if_pos (by omega)]) rfl
        simpa using this
      have hq3 := HO.out.freeN i
      go_wp2_with (go_at_call 37; refine (Tryd.strings_Index_one sk 10 _).mono ?_; rintro e w2 ⟨rfl, rfl⟩; rw [hix])
      go_roundw
      case rel => exact ⟨i + 1, sk.extract (m + 1) sk.size, d ++ [sk.extract 0 m], by omega, rfl, by go_num, by simp [HD.out], by rw [HPP.out, HPH.out]; simp, by rw [ByteArray.size_extract]; omega, by have := (OwS_set HO.out i (sk.extract 0 m)).1; rw [rep_set _ HD.out (by omega)] at this; exact this, HB.out.setCell (Nat.le_refl _) _⟩
      case measure => simp [intOf]; omega
    · obtain rfl : i = N := by omega
      have hm : ¬ fstI 10 sk.data.toList < sk.size := by
        intro h
        rw [if_pos h] at hcf; omega
      have HPH := hide (partsB_miss hm)
      have hq2 : wr.cell? ⟨w'.heap.size, i, none⟩ = some (.string ByteArray.empty) := by
        have := HO.out.cellN (k := i) (j := 0) (x := ByteArray.empty) (u := .string ByteArray.empty) (by rw [List.getElem?_append_right (by rw [HD.out]; omega), HD.out, Nat.sub_self, List.getElem?_replicate, if_pos (by omega)]) rfl
        simpa using this
      have hq3 := HO.out.freeN i
      clear hcf hfi hc2 hm hll
      go_wp2
      go_ret
      have hall : partsB 10 s = d ++ [sk] := by rw [HPP.out, HPH.out]
      have hres := (OwS_set HO.out i sk).1
      rw [rep_set _ HD.out (by omega), Nat.sub_self, List.replicate_zero, List.append_nil, ← hall] at hres
      have hlen : (partsB 10 s).length = i + 1 := HP.out
      rw [hlen]
      exact ⟨i + 1, rfl, hres, HB.out.setCell (Nat.le_refl _) _⟩
end Go.Proofs.YtjbcanihpcfncaaDoor
