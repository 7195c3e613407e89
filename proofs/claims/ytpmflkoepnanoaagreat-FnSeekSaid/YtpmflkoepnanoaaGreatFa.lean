/- Contracts: stores of both sides; the law of StoreSignal. Contracts: StoreSignal of both sides; the law. -/
import Derived.Test.YtpmflkoepnanoaaGreatEc
namespace Go.Proofs.YtpmflkoepnanoaaGreat
section
open Go.RowKit
/-- A frame behind its number of bytes. -/
def bodyS (c : List Int) : ByteArray := mkS (wordL (frameS c (ordR c).1 (ordR c).2).size) ++ frameS c (ordR c).1 (ordR c).2
def chunkL (xs : List Int) (f fr : Nat) : List Int := (xs.drop fr).take f
/-- The first frames of a store. -/
def bodyTo (xs : List Int) (f : Nat) : Nat → ByteArray
  | 0 => ⟨#[]⟩
  | j + 1 => bodyTo xs f j ++ bodyS (chunkL xs f (j * f))
def headS (f n : Nat) : ByteArray := sealS (mkS ([83, 84, 69, 77] ++ wordL f ++ wordL n))
def nch (n f : Nat) : Nat := (n + f - 1) / f
def storeS (xs : List Int) (f : Nat) : ByteArray := headS f xs.length ++ bodyTo xs f (nch xs.length f)
set_option maxRecDepth 100000 in
theorem ordR_bd {c : List Int} (h : ∀ x ∈ c, Smp x) : (ordR c).1 ≤ 3 ∧ (ordR c).2 ≤ 30 := by
  unfold ordR; exact ⟨(ordTo_bd h 3).1, (ordTo_bd h 3).2.1⟩
theorem size_frameS {c : List Int} (h : ∀ x ∈ c, Smp x) (hl : c.length ≤ 256) : (frameS c (ordR c).1 (ordR c).2).size ≤ 1670 ∧ 6 ≤ (frameS c (ordR c).1 (ordR c).2).size := by
  have hk : (ordR c).2 ≤ 30 := (ordR_bd h).2
  have := length_encP (ordR c).1 (ordR c).2 h hk
  unfold frameS
  rw [size_sealS, size_mkS]
  unfold frameL
  simp [wordL, length_packL]
  omega
theorem size_bodyS {c : List Int} (h : ∀ x ∈ c, Smp x) (hl : c.length ≤ 256) : (bodyS c).size ≤ 1672 := by
  have := size_frameS h hl
  unfold bodyS
  rw [ByteArray.size_append, size_mkS]
  simp [wordL]; omega
theorem smp_chunk {xs : List Int} (h : ∀ x ∈ xs, Smp x) (f fr : Nat) : ∀ x ∈ chunkL xs f fr, Smp x := fun x hx => h x (List.mem_of_mem_drop (List.mem_of_mem_take hx))
theorem length_chunk (xs : List Int) (f fr : Nat) : (chunkL xs f fr).length ≤ f := by unfold chunkL; exact List.length_take_le _ _
theorem size_bodyTo {xs : List Int} (h : ∀ x ∈ xs, Smp x) {f : Nat} (hf : f ≤ 256) (j : Nat) : (bodyTo xs f j).size ≤ j * 1672 := by
  induction j with
  | zero => exact Nat.le_refl _
  | succ j ih =>
    have := size_bodyS (smp_chunk h f (j * f)) (Nat.le_trans (length_chunk xs f _) hf)
    simp only [bodyTo]
    rw [ByteArray.size_append]; omega
theorem size_headS (f n : Nat) : (headS f n).size = 10 := by unfold headS; rw [size_sealS, size_mkS]; rfl
theorem RdI.sub {w : World} {b off n cap : Nat} {xs : List Int} (h : RdI w (.slice (some ⟨b, off, none⟩) n cap) xs) {lo hi : Nat} (hlo : lo < hi) (hhi : hi ≤ n) : RdI w (.slice (some ⟨b, off + lo, none⟩) (hi - lo) (cap - lo)) ((xs.drop lo).take (hi - lo)) := by
  obtain ⟨h1, A, cap', h2, h3, h4, h5⟩ := h
  injection h2 with h2 h6 h7
  subst h6 h7
  have hlen : ((xs.drop lo).take (hi - lo)).length = hi - lo := by simp; omega
  obtain ⟨b', off', he, hb, hc⟩ := h5 (by omega)
  rw [← h2] at he
  injection he with he
  injection he with e1 e2
  subst e1 e2
  refine ⟨by simp, some ⟨b, off + lo, none⟩, cap - lo, by rw [hlen], by rw [hlen]; omega, by omega, fun _ => ⟨b, off + lo, rfl, hb, fun j u hu => ?_⟩⟩
  have hj : j < hi - lo := by have := (List.getElem?_eq_some_iff.1 hu).1; rw [List.length_map, hlen] at this; exact this
  rw [List.getElem?_map, List.getElem?_take_of_lt hj, List.getElem?_drop] at hu
  rw [Nat.add_assoc]
  exact hc (lo + j) u (by rw [List.getElem?_map]; exact hu)
theorem nch_at {n f j : Nat} (hf : 0 < f) (h1 : j * f < n + f) (h2 : n ≤ j * f) : j = nch n f := by
  unfold nch
  have := Nat.div_add_mod (n + f - 1) f
  have hm := Nat.mod_lt (n + f - 1) hf
  generalize (n + f - 1) / f = q at *
  rw [Nat.mul_comm] at this
  rcases Nat.lt_trichotomy j q with hlt | rfl | hgt
  · have : (j + 1) * f ≤ q * f := Nat.mul_le_mul_right _ hlt
    rw [Nat.add_mul] at this; omega
  · rfl
  · have : (q + 1) * f ≤ j * f := Nat.mul_le_mul_right _ hgt
    rw [Nat.add_mul] at this; omega
set_option maxHeartbeats 400000 in
theorem c_framed (s : ByteArray) (w : World) (hs : s.size ≤ 60000) : Calls Tryz.prog 42 #[.string s] w fun e w' => e = .returned (.string (mkS (wordL s.size) ++ s)) ∧ Below w.heap.size w w' := by
  have hz : (mkS (wordL s.size)).size + s.size ≤ 9223372036854775807 := by rw [size_mkS]; simp [wordL]; omega
  go_enter Tryz.func42, Tryz.ntmps42
  go_wp2_with fail
  refine (c_twoBytes s.size _ (by omega)).mono ?_; rintro e w1 ⟨rfl, hb⟩
  have HB := hide hb; clear hb
  go_wp2
  go_ret
  exact ⟨rfl, HB.out⟩
set_option maxHeartbeats 400000 in
theorem c_l30Body (v : Value) (c : List Int) (w : World) (hr : RdI w v c) (hs : ∀ x ∈ c, Smp x) (hn : c.length ≤ 256) : Calls Tryz.prog 54 #[v] w fun e w' => e = .returned (.string (bodyS c)) ∧ Below w.heap.size w w' := by
  have HR := hide hr; have HS := hide hs; clear hr hs
  have ho3 : (ordR c).1 ≤ 3 := (ordR_bd HS.out).1
  have hk3 : (ordR c).2 ≤ 30 := (ordR_bd HS.out).2
  have hsz := size_frameS HS.out hn
  have HE := hide (show bodyS c = mkS (wordL (frameS c (ordR c).1 (ordR c).2).size) ++ frameS c (ordR c).1 (ordR c).2 from rfl)
  generalize hfr : frameS c (ordR c).1 (ordR c).2 = fr at *
  have HFR := hide hfr; clear hfr
  have hz : (mkS (wordL fr.size)).size + fr.size ≤ 9223372036854775807 := by rw [size_mkS]; simp [wordL]; omega
  go_enter Tryz.func54, Tryz.ntmps54
  go_wp2_with fail
  refine (c_l29Order _ c _ HR.out HS.out (by omega)).mono ?_; rintro e w1 ⟨rfl, hb1⟩
  have HB1 := hide hb1; clear hb1
  go_wp2_with fail
  refine (c_l29Frame _ c _ _ _ (HR.out.below HB1.out) HS.out (by omega) ho3 hk3).mono ?_; rw [HFR.out]; rintro e w2 ⟨rfl, hb2⟩
  have HB2 := hide (bthen HB1.out HB1.out.size hb2); clear hb2
  go_wp2_with fail
  refine (c_l29Word fr.size _ (by omega)).mono ?_; rintro e w3 ⟨rfl, hb3⟩
  have HB3 := hide (bthen HB2.out HB2.out.size hb3); clear hb3
  go_wp2
  go_ret
  exact ⟨ret_str HE.out.symm, HB3.out⟩
theorem head_cat (f n : Nat) : (⟨#[83, 84, 69, 77]⟩ : ByteArray) ++ mkS (wordL f) ++ mkS (wordL n) = mkS ([83, 84, 69, 77] ++ wordL f ++ wordL n) := by
  show mkS [83, 84, 69, 77] ++ _ ++ _ = _
  rw [mkS_append, mkS_append]
set_option maxHeartbeats 400000 in
theorem c_l30Head (n f : Nat) (w : World) (hn : n ≤ 65535) (hf : f ≤ 65535) : Calls Tryz.prog 53 #[.int .i64 (n : Int), .int .i64 (f : Int)] w fun e w' => e = .returned (.string (headS f n)) ∧ Below w.heap.size w w' := by
  have HC := hide (head_cat f n)
  have hz1 : (⟨#[83, 84, 69, 77]⟩ : ByteArray).size + (mkS (wordL f)).size ≤ 9223372036854775807 := by rw [size_mkS]; show 4 + 2 ≤ _; omega
  have hz2 : ((⟨#[83, 84, 69, 77]⟩ : ByteArray) ++ mkS (wordL f)).size + (mkS (wordL n)).size ≤ 9223372036854775807 := by rw [ByteArray.size_append, size_mkS, size_mkS]; show 4 + 2 + 2 ≤ _; omega
  have hz3 : (mkS ([83, 84, 69, 77] ++ wordL f ++ wordL n)).size ≤ 1073741824 := by rw [size_mkS]; simp [wordL]
  generalize hwf : wordL f = wf at *
  generalize hwn : wordL n = wn at *
  have HWF := hide hwf; have HWN := hide hwn; clear hwf hwn
  go_enter Tryz.func53, Tryz.ntmps53
  go_wp2_with fail
  refine (c_l29Word f _ hf).mono ?_; rw [HWF.out]; rintro e w1 ⟨rfl, hb1⟩
  have HB1 := hide hb1; clear hb1
  go_wp2_with fail
  refine (c_l29Word n _ hn).mono ?_; rw [HWN.out]; rintro e w2 ⟨rfl, hb2⟩
  have HB2 := hide (bthen HB1.out HB1.out.size hb2); clear hb2
  go_wp2_with fail
  rw [HC.out]
  refine (c_l29Seal _ _ hz3).mono ?_; rintro e w3 ⟨rfl, hb3⟩
  have HB3 := hide (bthen HB2.out HB2.out.size hb3); clear hb3
  go_wp2
  go_ret
  exact ⟨ret_str (by unfold headS; rw [HWF.out, HWN.out]; rfl), HB3.out⟩
set_option maxHeartbeats 400000 in
theorem c_storeHead (n f : Nat) (w : World) (hn : n ≤ 65535) (hf : f ≤ 65535) : Calls Tryz.prog 26 #[.int .i64 (f : Int), .int .i64 (n : Int)] w fun e w' => e = .returned (.string (headS f n)) ∧ Below w.heap.size w w' := by
  have HC := hide (head_cat f n)
  have hz1 : (⟨#[83, 84, 69, 77]⟩ : ByteArray).size + (mkS (wordL f)).size ≤ 9223372036854775807 := by rw [size_mkS]; show 4 + 2 ≤ _; omega
  have hz2 : ((⟨#[83, 84, 69, 77]⟩ : ByteArray) ++ mkS (wordL f)).size + (mkS (wordL n)).size ≤ 9223372036854775807 := by rw [ByteArray.size_append, size_mkS, size_mkS]; show 4 + 2 + 2 ≤ _; omega
  have hz3 : (mkS ([83, 84, 69, 77] ++ wordL f ++ wordL n)).size ≤ 1073741824 := by rw [size_mkS]; simp [wordL]
  generalize hwf : wordL f = wf at *
  generalize hwn : wordL n = wn at *
  have HWF := hide hwf; have HWN := hide hwn; clear hwf hwn
  go_enter Tryz.func26, Tryz.ntmps26
  go_wp2_with fail
  refine (c_twoBytes f _ hf).mono ?_; rw [HWF.out]; rintro e w1 ⟨rfl, hb1⟩
  have HB1 := hide hb1; clear hb1
  go_wp2_with fail
  refine (c_twoBytes n _ hn).mono ?_; rw [HWN.out]; rintro e w2 ⟨rfl, hb2⟩
  have HB2 := hide (bthen HB1.out HB1.out.size hb2); clear hb2
  go_wp2_with fail
  rw [HC.out]
  refine (c_checked _ _ hz3).mono ?_; rintro e w3 ⟨rfl, hb3⟩
  have HB3 := hide (bthen HB2.out HB2.out.size hb3); clear hb3
  go_wp2
  go_ret
  exact ⟨ret_str (by unfold headS; rw [HWF.out, HWN.out]; rfl), HB3.out⟩
set_option maxHeartbeats 1000000 in
set_option maxRecDepth 100000 in
theorem c_framesText (v : Value) (xs : List Int) (f : Nat) (w : World) (hr : RdI w v xs) (hs : ∀ x ∈ xs, Smp x) (hn : xs.length ≤ 4000) (hf : 16 ≤ f ∧ f ≤ 256) : Calls Tryz.prog 28 #[v, .int .i64 (f : Int)] w fun e w' => e = .returned (.string (bodyTo xs f (nch xs.length f))) ∧ Below w.heap.size w w' := by
  have HR := hide hr; have HS := hide hs
  obtain ⟨A, cap, rfl, hl, hc, hx⟩ := hr.open_
  have HX := hide hx; clear hr hs hx
  go_enter Tryz.func28, Tryz.ntmps28
  go_wp2
  go_loopw [5, 6] (fun t i wr => ∃ j fr : Nat, Sec (j * f = fr) ∧ fr < xs.length + f ∧ i = .int .i64 (fr : Int) ∧ t = .string (bodyTo xs f j) ∧ Below w.heap.size w wr) (fun _ i _ => xs.length - (intOf i).toNat)
  case atStart => exact ⟨0, 0, ⟨by simp⟩, by omega, rfl, rfl, Below.refl _ _⟩
  case round =>
    obtain ⟨j, fr, HJ, hfr, rfl, rfl, hb⟩ := hrel
    have HB := hide hb; have hsz := hb.size; clear hb
    have HRr : Sec (RdI wr (.slice A xs.length cap) xs) := ⟨HR.out.below HB.out⟩
    by_cases hlt : fr < xs.length
    · obtain ⟨b, off, rfl, hbw, hcell⟩ := HX.out fr xs[fr] (List.getElem?_eq_getElem hlt)
      clear hcell
      have hjb : j ≤ fr := by have := HJ.out; have : j * 1 ≤ j * f := Nat.mul_le_mul_left _ (by omega); omega
      have hbt := size_bodyTo HS.out hf.2 j
      have HBT := hide (show bodyTo xs f (j + 1) = bodyTo xs f j ++ bodyS (chunkL xs f fr) by simp only [bodyTo]; rw [HJ.out])
      have HCS := hide (smp_chunk HS.out f fr)
      have hcl := length_chunk xs f fr
      have hbs := size_bodyS HCS.out (by omega)
      have hfs := size_frameS HCS.out (by omega)
      have HBD := hide (show bodyS (chunkL xs f fr) = mkS (wordL (frameS (chunkL xs f fr) (ordR (chunkL xs f fr)).1 (ordR (chunkL xs f fr)).2).size) ++ frameS (chunkL xs f fr) (ordR (chunkL xs f fr)).1 (ordR (chunkL xs f fr)).2 from rfl)
      obtain ⟨hi, hhi1, hhi2, hhi3⟩ : ∃ hi, fr < hi ∧ hi ≤ xs.length ∧ (hi : Int) = min (xs.length : Int) ((fr : Int) + (f : Int)) := by
        by_cases h : xs.length ≤ fr + f
        · exact ⟨xs.length, hlt, Nat.le_refl _, by omega⟩
        · exact ⟨fr + f, by omega, by omega, by omega⟩
      have HCK := hide (show (xs.drop fr).take (hi - fr) = chunkL xs f fr by
        unfold chunkL
        by_cases h : xs.length ≤ fr + f
        · rw [List.take_of_length_le (by rw [List.length_drop]; omega), List.take_of_length_le (by rw [List.length_drop]; omega)]
        · have : hi - fr = f := by omega
          rw [this])
      have HSUB := hide (RdI.sub HRr.out hhi1 hhi2)
      have HHI := hide hhi3; clear hhi3
      generalize hck : chunkL xs f fr = ck at *
      generalize hbo : bodyTo xs f j = bo at *
      generalize hfm : frameS ck (ordR ck).1 (ordR ck).2 = fm at *
      generalize hbk : bodyS ck = bk at *
      have HCK2 := hide hck; have HBO := hide hbo; have HFM := hide hfm; have HBK := hide hbk; clear hck hbo hfm hbk
      have hz : bo.size + bk.size ≤ 9223372036854775807 := by omega
      go_wp2_with fail
      refine (c_size _ xs _ HRr.out).mono ?_; rintro e w' ⟨rfl, rfl⟩
      go_wp2_with fail
      refine (c_size _ xs _ HRr.out).mono ?_; rintro e w' ⟨rfl, rfl⟩
      go_wp2_with fail
      rw [← HHI.out, Int.toNat_natCast]
      refine (c_encodeFrame _ ck _ (by have := HSUB.out; rw [HCK.out] at this; exact this) HCS.out (by omega)).mono ?_; rw [HFM.out]; rintro e w2 ⟨rfl, hb2⟩
      have HB2 := hide (bthen HB.out hsz hb2); clear hb2
      go_wp2_with fail
      refine (c_framed fm _ (by omega)).mono ?_; rw [← HBD.out]; rintro e w3 ⟨rfl, hb3⟩
      have HB3 := hide (bthen HB2.out HB2.out.size hb3); clear hb3
      go_wp2
      go_roundw
      case rel => exact ⟨j + 1, fr + f, ⟨by rw [Nat.add_mul, HJ.out]; omega⟩, by omega, by go_num, by rw [HBT.out], HB3.out⟩
      case measure => first | (simp [intOf]; done) | (simp [intOf]; omega)
    · have hj : j = nch xs.length f := nch_at (by omega) (by rw [HJ.out]; exact hfr) (by rw [HJ.out]; omega)
      have HJJ := hide hj; clear hj
      go_wp2_with fail
      refine (c_size _ xs _ HRr.out).mono ?_; rintro e w' ⟨rfl, rfl⟩
      go_wp2
      go_ret
      exact ⟨ret_str (by rw [HJJ.out]), HB.out⟩
set_option maxHeartbeats 1000000 in
set_option maxRecDepth 100000 in
theorem c_l30Store (v : Value) (xs : List Int) (f : Nat) (w : World) (hr : RdI w v xs) (hs : ∀ x ∈ xs, Smp x) (hn : xs.length ≤ 4000) (hf : 16 ≤ f ∧ f ≤ 256) : Calls Tryz.prog 38 #[v, .int .i64 (f : Int)] w fun e w' => e = .returned (.string (storeS xs f)) ∧ Below w.heap.size w w' := by
  have HR := hide hr; have HS := hide hs
  obtain ⟨A, cap, rfl, hl, hc, hx⟩ := hr.open_
  have HX := hide hx; clear hr hs hx
  go_enter Tryz.func38, Tryz.ntmps38
  go_wp2_with fail
  refine (c_l30Head xs.length f _ (by omega) (by omega)).mono ?_; rintro e w0 ⟨rfl, hb0⟩
  have hz0 := size_headS f xs.length
  have HST := hide (show storeS xs f = headS f xs.length ++ bodyTo xs f (nch xs.length f) from rfl)
  generalize hhd : headS f xs.length = hd at *
  have HHD := hide hhd; have HB0 := hide hb0; clear hhd hb0
  go_wp2
  go_loopw [6, 7] (fun t i wr => ∃ j fr : Nat, Sec (j * f = fr) ∧ fr < xs.length + f ∧ i = .int .i64 (fr : Int) ∧ t = .string (hd ++ bodyTo xs f j) ∧ Below w.heap.size w wr) (fun _ i _ => xs.length - (intOf i).toNat)
  case atStart => exact ⟨0, 0, ⟨by simp⟩, by omega, rfl, by rw [show bodyTo xs f 0 = ByteArray.empty from rfl, ByteArray.append_empty], HB0.out⟩
  case round =>
    obtain ⟨j, fr, HJ, hfr, rfl, rfl, hb⟩ := hrel
    have HB := hide hb; have hsz := hb.size; clear hb
    have HRr : Sec (RdI wr (.slice A xs.length cap) xs) := ⟨HR.out.below HB.out⟩
    by_cases hlt : fr < xs.length
    · obtain ⟨b, off, rfl, hbw, hcell⟩ := HX.out fr xs[fr] (List.getElem?_eq_getElem hlt)
      clear hcell
      have hjb : j ≤ fr := by have := HJ.out; have : j * 1 ≤ j * f := Nat.mul_le_mul_left _ (by omega); omega
      have hbt := size_bodyTo HS.out hf.2 j
      have HBT := hide (show bodyTo xs f (j + 1) = bodyTo xs f j ++ bodyS (chunkL xs f fr) by simp only [bodyTo]; rw [HJ.out])
      have HCS := hide (smp_chunk HS.out f fr)
      have hcl := length_chunk xs f fr
      have hbs := size_bodyS HCS.out (by omega)
      have hfs := size_frameS HCS.out (by omega)
      have HBD := hide (show bodyS (chunkL xs f fr) = mkS (wordL (frameS (chunkL xs f fr) (ordR (chunkL xs f fr)).1 (ordR (chunkL xs f fr)).2).size) ++ frameS (chunkL xs f fr) (ordR (chunkL xs f fr)).1 (ordR (chunkL xs f fr)).2 from rfl)
      obtain ⟨hi, hhi1, hhi2, hhi3⟩ : ∃ hi, fr < hi ∧ hi ≤ xs.length ∧ (hi : Int) = min (xs.length : Int) ((fr : Int) + (f : Int)) := by
        by_cases h : xs.length ≤ fr + f
        · exact ⟨xs.length, hlt, Nat.le_refl _, by omega⟩
        · exact ⟨fr + f, by omega, by omega, by omega⟩
      have HCK := hide (show (xs.drop fr).take (hi - fr) = chunkL xs f fr by
        unfold chunkL
        by_cases h : xs.length ≤ fr + f
        · rw [List.take_of_length_le (by rw [List.length_drop]; omega), List.take_of_length_le (by rw [List.length_drop]; omega)]
        · have : hi - fr = f := by omega
          rw [this])
      have HSUB := hide (RdI.sub HRr.out hhi1 hhi2)
      have HHI := hide hhi3; clear hhi3
      generalize hck : chunkL xs f fr = ck at *
      generalize hbo : bodyTo xs f j = bo at *
      generalize hfm : frameS ck (ordR ck).1 (ordR ck).2 = fm at *
      generalize hbk : bodyS ck = bk at *
      have HCK2 := hide hck; have HBO := hide hbo; have HFM := hide hfm; have HBK := hide hbk; clear hck hbo hfm hbk
      have hz : (hd ++ bo).size + bk.size ≤ 9223372036854775807 := by rw [ByteArray.size_append]; omega
      have HMIN := hide (show (if (fr : Int) + (f : Int) < (xs.length : Int) then (fr : Int) + (f : Int) else (xs.length : Int)) = (hi : Int) by rw [HHI.out]; split <;> omega)
      go_wp2_with fail
      refine (c_l00Min _ _ _).mono ?_; rw [HMIN.out]; rintro e w' ⟨rfl, rfl⟩
      go_wp2_with fail
      refine (c_l30Body _ ck _ (by have := HSUB.out; rw [HCK.out] at this; exact this) HCS.out (by omega)).mono ?_; rw [HBK.out]; rintro e w3 ⟨rfl, hb3⟩
      have HB3 := hide (bthen HB.out hsz hb3); clear hb3
      go_wp2
      go_roundw
      case rel => exact ⟨j + 1, fr + f, ⟨by rw [Nat.add_mul, HJ.out]; omega⟩, by omega, by go_num, by rw [HBT.out, ByteArray.append_assoc], HB3.out⟩
      case measure => first | (simp [intOf]; done) | (simp [intOf]; omega)
    · have hj : j = nch xs.length f := nch_at (by omega) (by rw [HJ.out]; exact hfr) (by rw [HJ.out]; omega)
      have HJJ := hide hj; clear hj
      go_wp2
      go_ret
      exact ⟨ret_str (by rw [HST.out, HJJ.out]), HB.out⟩
end
open Go.RowKit
def storeF (xs : List Int) (m : Int) : ByteArray × Int := if sigB xs then (if inB m 16 256 then (storeS xs m.toNat, 0) else (⟨#[]⟩, 2)) else (⟨#[]⟩, 1)
def StoR (xs : List Int) (m : Int) (w : World) (e : Ending) (w' : World) : Prop := e = .returned (.tuple #[.string (storeF xs m).1, .int .i64 (storeF xs m).2]) ∧ Below w.heap.size w w'
theorem StoR.mk {xs : List Int} {m : Int} {w w' : World} {a : ByteArray} {c : Int} (h : storeF xs m = (a, c)) (hb : Below w.heap.size w w') : StoR xs m w (.returned (.tuple #[.string a, .int .i64 c])) w' := ⟨by rw [h], hb⟩
set_option maxHeartbeats 800000 in
set_option maxRecDepth 100000 in
theorem c_sStoreSignal (v : Value) (xs : List Int) (m : Int) (w : World) (hr : RdI w v xs) (hn : xs.length ≤ 1048576) : Calls Tryz.prog 15 #[v, .int .i64 m] w (StoR xs m w) := by
  have HR := hide hr; clear hr
  cases hs : sigB xs
  · have HE := hide (show storeF xs m = (⟨#[]⟩, 1) by unfold storeF; rw [hs]; rfl)
    go_enter Tryz.func15, Tryz.ntmps15
    go_wp2_with (go_at_call 33; refine (c_l03Ok _ xs _ HR.out).mono ?_; rintro e w' ⟨rfl, rfl⟩)
    go_ret2
    exact StoR.mk HE.out (Below.refl _ _)
  · cases hi : inB m 16 256
    · have HE := hide (show storeF xs m = (⟨#[]⟩, 2) by unfold storeF; rw [hs, hi]; rfl)
      go_enter Tryz.func15, Tryz.ntmps15
      go_wp2_with (first | (go_at_call 33; refine (c_l03Ok _ xs _ HR.out).mono ?_; rintro e w' ⟨rfl, rfl⟩) | (go_at_call 37; refine (c_l00In _ _ _ _).mono ?_; rintro e w' ⟨rfl, rfl⟩))
      go_ret2
      exact StoR.mk HE.out (Below.refl _ _)
    · obtain ⟨h0, h3⟩ := inB_true.1 hi
      obtain ⟨f, rfl⟩ := Int.eq_ofNat_of_zero_le (show 0 ≤ m by omega)
      have HE := hide (show storeF xs f = (storeS xs f, 0) by unfold storeF; rw [hs, hi]; rfl)
      have hsl := (sigB_true.1 hs).1
      have HSS := hide (sigB_true.1 hs).2
      go_enter Tryz.func15, Tryz.ntmps15
      go_wp2_with fail
      refine (c_l03Ok _ xs _ HR.out).mono ?_; rintro e w' ⟨rfl, rfl⟩
      go_wp2_with fail
      refine (c_l00In _ _ _ _).mono ?_; rintro e w' ⟨rfl, rfl⟩
      go_wp2_with fail
      refine (c_l30Store _ xs f _ HR.out HSS.out hsl (by omega)).mono ?_; rintro e w1 ⟨rfl, hb⟩
      have HB := hide hb; clear hb
      go_wp2
      go_ret2
      exact StoR.mk HE.out HB.out
set_option maxHeartbeats 800000 in
set_option maxRecDepth 100000 in
theorem c_iStoreSignal (v : Value) (xs : List Int) (m : Int) (w : World) (hr : RdI w v xs) (hn : xs.length ≤ 1048576) : Calls Tryz.prog 8 #[v, .int .i64 m] w (StoR xs m w) := by
  have HR := hide hr; clear hr
  cases hs : sigB xs
  · have HE := hide (show storeF xs m = (⟨#[]⟩, 1) by unfold storeF; rw [hs]; rfl)
    go_enter Tryz.func8, Tryz.ntmps8
    go_wp2_with (go_at_call 24; refine (c_isSignal _ xs _ HR.out).mono ?_; rintro e w' ⟨rfl, rfl⟩)
    go_ret2
    exact StoR.mk HE.out (Below.refl _ _)
  · cases hi : inB m 16 256
    · have HE := hide (show storeF xs m = (⟨#[]⟩, 2) by unfold storeF; rw [hs, hi]; rfl)
      go_enter Tryz.func8, Tryz.ntmps8
      go_wp2_with (first | (go_at_call 24; refine (c_isSignal _ xs _ HR.out).mono ?_; rintro e w' ⟨rfl, rfl⟩) | (go_at_call 25; refine (c_within _ _ _ _).mono ?_; rintro e w' ⟨rfl, rfl⟩))
      go_ret2
      exact StoR.mk HE.out (Below.refl _ _)
    · obtain ⟨h0, h3⟩ := inB_true.1 hi
      obtain ⟨f, rfl⟩ := Int.eq_ofNat_of_zero_le (show 0 ≤ m by omega)
      have HE := hide (show storeF xs f = (storeS xs f, 0) by unfold storeF; rw [hs, hi]; rfl)
      have hsl := (sigB_true.1 hs).1
      have HSS := hide (sigB_true.1 hs).2
      go_enter Tryz.func8, Tryz.ntmps8
      go_wp2_with fail
      refine (c_isSignal _ xs _ HR.out).mono ?_; rintro e w' ⟨rfl, rfl⟩
      go_wp2_with fail
      refine (c_within _ _ _ _).mono ?_; rintro e w' ⟨rfl, rfl⟩
      go_wp2_with fail
      refine (c_size _ xs _ HR.out).mono ?_; rintro e w' ⟨rfl, rfl⟩
      go_wp2_with fail
      refine (c_storeHead xs.length f _ (by omega) (by omega)).mono ?_; rintro e w1 ⟨rfl, hb1⟩
      have HB1 := hide hb1; clear hb1
      go_wp2_with fail
      refine (c_framesText _ xs f _ (HR.out.below HB1.out) HSS.out hsl (by omega)).mono ?_; rintro e w2 ⟨rfl, hb2⟩
      have HB := hide (bthen HB1.out HB1.out.size hb2); clear hb2
      have hzb := size_bodyTo HSS.out (show f ≤ 256 by omega) (nch xs.length f)
      have hnc : nch xs.length f ≤ 5000 := by unfold nch; exact Nat.le_trans (Nat.div_le_self _ _) (by omega)
      have hz0 := size_headS f xs.length
      have HST := hide (show storeS xs f = headS f xs.length ++ bodyTo xs f (nch xs.length f) from rfl)
      have hz : (headS f xs.length).size + (bodyTo xs f (nch xs.length f)).size ≤ 9223372036854775807 := by omega
      go_wp2
      go_ret2
      exact StoR.mk HE.out HB.out
end Go.Proofs.YtpmflkoepnanoaaGreat
