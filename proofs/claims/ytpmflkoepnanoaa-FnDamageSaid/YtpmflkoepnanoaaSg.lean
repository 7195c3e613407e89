/- FnDamage: the law. -/
import Derived.Test.YtpmflkoepnanoaaSe
import Derived.Test.YtpmflkoepnanoaaRe
namespace Go.Proofs.Ytpmflkoepnanoaa
open Go.RowKit
theorem at_g {f n : Nat} {L : List (List UInt8)} (h : Frs f n L) {k r : Nat} {F : List UInt8} (hk : L[k]? = some F) (hr : r < F.length) : (gS f n L).data.toList[plc (gS f n L) k + 2 + r]? = some F[r] := by
  have hlt := (List.getElem?_eq_some_iff.1 hk).1
  rw [plc_g h (by omega)]
  unfold gS
  rw [data_mkS]
  have e1 : headL f n ++ catL L = (headL f n ++ catL (L.take k) ++ wordL F.length) ++ (F ++ catL (L.drop (k + 1))) := by rw [catL_split hk]; simp only [List.append_assoc]
  have hl : (headL f n ++ catL (L.take k) ++ wordL F.length).length = 10 + (catL (L.take k)).length + 2 := by simp only [List.length_append, length_wordL, length_headL]
  rw [e1, ← hl, List.getElem?_append_right (by omega), Nat.add_sub_cancel_left, List.getElem?_append_left hr, List.getElem?_eq_getElem hr]
/-- What both readers of a damaged store see. -/
structure Hurt (xs : List Int) (f k : Nat) (t : ByteArray) : Prop where
  dmg : dmgF t = ([(k : Int)], 0)
  slv : slvF t = ((xs.take (k * f) ++ List.replicate (lenK xs.length f k) 0 ++ xs.drop ((k + 1) * f), [(k : Int)]), 0)
  frame : ldFrF t (k : Int) = ([], 10)
  load : ldSigF t = ([], 10)
  before : ldRngF t ((0 : Nat) : Int) ((k * f : Nat) : Int) = (xs.take (k * f), 0)
  behind : ldRngF t ((min ((k + 1) * f) xs.length : Nat) : Int) ((xs.length - min ((k + 1) * f) xs.length : Nat) : Int) = (xs.drop (min ((k + 1) * f) xs.length), 0)
theorem hurt_of {xs : List Int} {f k : Nat} {t : ByteArray} (h : Dmg xs f k t) : Hurt xs f k t := by
  obtain ⟨ps, hp⟩ := h.opens
  have hkf := (nch_lt h.f1.1).1 h.lt
  refine ⟨?_, ?_, ?_, ?_, ?_, ?_⟩
  · rw [dmg2 hp, h.salv]
  · unfold slvF; rw [hp, h.salv]; simp
  · rw [ldfr3 hp (by rw [h.cnt]; exact h.lt), h.bad]
  · rw [ldsig2 hp, h.num6, h.whole]
  · rw [ldrng4 hp (by rw [h.num6, inB_true]; omega) (by rw [h.num6, inB_true]; omega), h.before]
  · rw [ldrng4 hp (by rw [h.num6, inB_true]; omega) (by rw [h.num6, inB_true]; omega), h.behind]
/-- A slice of numbers that are there begins a block. -/
theorem own_some {E : TypeId} {w : World} {B n : Nat} {v : Value} {xs : List Int} (h : OwI E w B v xs) (hl : xs.length = n) (hn : 0 < n) : ∃ g cap, v = .slice (some ⟨g, 0, none⟩) n cap ∧ n ≤ cap ∧ cap ≤ 9223372036854775807 := by
  obtain ⟨g, cap, rfl, h1, _, _⟩ := h.form (by omega)
  obtain ⟨_, A, cap2, h2, _, h4, _⟩ := h.rd
  injection h2 with _ _ h5
  subst hl
  exact ⟨g, cap, rfl, h1, by omega⟩
theorem RdI_head {w : World} {b n cap : Nat} {xs : List Int} (h : RdI w (.slice (some ⟨b, 0, none⟩) n cap) xs) {hi : Nat} (hhi : hi ≤ n) : RdI w (.slice (some ⟨b, 0, none⟩) hi cap) (xs.take hi) := by
  have := RdI_sub0 h (Nat.zero_le hi) hhi
  simpa using this
theorem RdI_tail {w : World} {b n cap : Nat} {xs : List Int} (h : RdI w (.slice (some ⟨b, 0, none⟩) n cap) xs) (hl : xs.length = n) {lo : Nat} (hlo : lo ≤ n) : RdI w (.slice (some ⟨b, lo, none⟩) (n - lo) (cap - lo)) (xs.drop lo) := by
  have := RdI_sub0 h hlo (Nat.le_refl n)
  rwa [List.take_of_length_le (by rw [List.length_drop]; omega)] at this
theorem RdI_none (w : World) (A : Option Addr) : RdI w (.slice A 0 0) [] := ⟨by simp, A, 0, rfl, by simp, by omega, fun hn => absurd hn (by simp)⟩
/-- What a region that only reads asks of two lists compared. -/
theorem same_quiet {w : World} {v1 v2 : Value} {xs : List Int} (h1 : RdI w v1 xs) (h2 : RdI w v2 xs) (n : Nat) :
    Calls Try.prog 20 #[v1, v2] (w.drewN n) fun e w' => e = .returned (.bool true) ∧ ∃ m, w' = (w.drewN n).drewN m := by
  have := c_v8Same v1 v2 xs xs (w.drewN n) h1 h2
  rw [decide_eq_true (rfl : xs = xs)] at this
  exact this
theorem zeros_quiet {w : World} {v : Value} {c : Nat} (h : RdI w v (List.replicate c 0)) (n : Nat) :
    Calls Try.prog 22 #[v] (w.drewN n) fun e w' => e = .returned (.bool true) ∧ w' = w.drewN n :=
  (c_v8Zeros v c (w.drewN n) h).mono fun _ _ ⟨h1, h2⟩ => ⟨h1, h2.symm⟩
/-- All that the law needs of the store. -/
structure Prep (xs : List Int) (f : Nat) (s : ByteArray) (t : List Nat) : Prop where
  st : storeF xs (f : Int) = (s, 0)
  opn : Opn s t
  cnt : cntF s = nch xs.length f
  size : s.size ≤ 20000
  pl : ∀ k, k < nch xs.length f → ∃ fl, 6 ≤ fl ∧ fl ≤ 65536 ∧ plc s (k + 1) = plc s k + 2 + fl ∧ plc s (k + 1) ≤ s.size ∧ ∀ r, r < fl → ∀ z : UInt8, z.toNat ≠ bA s (plc s k + 2 + r) → Hurt xs f k (mkS (s.data.toList.set (plc s k + 2 + r) z))
theorem prep_of {xs : List Int} {f : Nat} (hs : ∀ x ∈ xs, Smp x) (hn : xs.length ≤ 70) (hf : 16 ≤ f ∧ f ≤ 25) : ∃ t, Prep xs f (storeS xs f) t := by
  have hF := frs_store hs (show xs.length ≤ 4000 by omega) (show 16 ≤ f ∧ f ≤ 256 by omega)
  have hp := placesF_g hF
  have hcn : cntF (gS f xs.length (frL xs f)) = nch xs.length f := cnt_g (by omega) (by omega)
  rw [← storeS_g] at hp hcn
  have h2 : nch xs.length f ≤ 6 := by
    have := (nch_lt (n := xs.length) (f := f) (j := 6) (by omega)).1
    have h4 : ¬ (6 * f < xs.length) := by omega
    rcases Nat.lt_or_ge 6 (nch xs.length f) with h | h
    · exact absurd (this h) h4
    · exact h
  have hsz : (storeS xs f).size ≤ 20000 := by
    have h1 := size_bodyTo hs (show f ≤ 256 by omega) (nch xs.length f)
    have h3 : nch xs.length f * 1672 ≤ 6 * 1672 := Nat.mul_le_mul_right _ h2
    unfold storeS
    rw [ByteArray.size_append, size_headS]; omega
  obtain ⟨t, _, hopn⟩ := opn_of hp (by omega)
  refine ⟨t, ?_, hopn, hcn, hsz, fun k hk => ?_⟩
  · unfold storeF; rw [if_pos (sigB_true.2 ⟨by omega, hs⟩), if_pos (inB_true.2 (by omega))]; rfl
  · have hat : (frL xs f)[k]? = some (frB (chunkL xs f (k * f))) := frTo_at hk
    have h256 := Nat.le_trans (length_chunk xs f (k * f)) (show f ≤ 256 by omega)
    have h6 := frB_six (smp_chunk hs f (k * f)) h256
    have h65 := frB_len (smp_chunk hs f (k * f)) h256
    have hpl := plc_g hF (j := k) (by rw [len_frL]; omega)
    have hpl1 := plc_g hF (j := k + 1) (by rw [len_frL]; omega)
    rw [← storeS_g] at hpl hpl1
    have hct := catL_take hat
    have hbd := (hopn.le (j := k) (by rw [hcn]; exact hk)).2
    refine ⟨(frB (chunkL xs f (k * f))).length, h6, by omega, by omega, hbd, fun r hr z hz => ?_⟩
    refine hurt_of (dmg_of hs (by omega) (by omega) hk hr fun e => hz ?_)
    have hag := at_g hF hat hr
    rw [← storeS_g] at hag
    unfold bA
    rw [List.getD_eq_getElem?_getD, hag, e]; rfl
theorem OwI.drw {E : TypeId} {w w' : World} {B : Nat} {v : Value} {xs : List Int} (h : OwI E w B v xs) (hd : Dr w w') : OwI E w' B v xs := by obtain ⟨n, rfl⟩ := hd; exact h
theorem RdI.drw {w w' : World} {v : Value} {xs : List Int} (h : RdI w v xs) (hd : Dr w w') : RdI w' v xs := by obtain ⟨n, rfl⟩ := hd; exact h
theorem RdI_zero (w : World) (A : Option Addr) (cap : Nat) (h : cap ≤ 9223372036854775807) : RdI w (.slice A 0 cap) [] := ⟨by simp, A, cap, rfl, by simp, h, fun hn => absurd hn (by simp)⟩
set_option maxHeartbeats 4000000 in
set_option maxRecDepth 100000 in
theorem law_Damage (v1 v2 : Value) (c1 c2 : List UInt8) (w : World) (h1 : RdY w v1 c1) (h2 : RdY w v2 c2) : Calls Try.prog 4 #[v1, v2] w fun e w' => e = .returned (.bool true) ∧ Below w.heap.size w w' := by
  have H1 := hide h1; have H2 := hide h2
  clear h1 h2
  cases hlong : (decide (1048576 < c1.length) || decide (1048576 < c2.length))
  · have hl : c1.length ≤ 1048576 ∧ c2.length ≤ 1048576 := by simpa using hlong
    have HL := hide hlong; clear hlong
    go_enter Try.func4, Try.ntmps4
    go_wp2_with fail
    refine (c_v8Long _ _ c1 c2 _ H1.out H2.out).mono ?_; rw [HL.out]; rintro e _ ⟨rfl, rfl⟩
    go_wp2_with fail
    refine (c_E8Long _ c1 _ H1.out (by omega)).mono ?_; rintro e w1 ⟨va, xs, rfl, ho, hxs, hxl, hb⟩
    have HA1 := hide ho; have HXS := hide hxs; have HB1 := hide hb; have hs1 := hb.size; have HC1 := hide (H2.out.below hb); clear ho hxs hb
    go_wp2_with fail
    refine (c_v8AtF _ c2 0 10 _ HC1.out (by omega) (by omega) (by omega)).mono ?_; rintro e w2 ⟨rfl, hd⟩
    have hx10 := atF_lt c2 0 10 (by omega)
    generalize atF c2 0 10 = x at *
    obtain ⟨f, hf⟩ : ∃ f : Nat, 16 + x = f := ⟨_, rfl⟩
    have ef : (16 : Int) + (x : Int) = (f : Int) := by omega
    have hf1 : 16 ≤ f ∧ f ≤ 25 := by omega
    have HB2 := hide (Dr.below HB1.out hd); have HA2 : Sec (OwI 2 w2 w.heap.size va xs) := hide (by obtain ⟨n, rfl⟩ := hd; exact HA1.out); have HC2 := hide (H2.out.below HB2.out); have hs2 := HB2.out.size; clear hd
    obtain ⟨t, hpr⟩ := prep_of HXS.out hxl hf1
    generalize storeS xs f = s at *
    have hsz := hpr.size; have hopn := hpr.opn
    have HPR := hide hpr; have HOP := hide hopn; have HCN := hide hpr.cnt; clear hpr hf hx10 hopn
    have KS : Sec (∀ w v, RdI w v xs → Calls Try.prog 14 #[v, .int .i64 (f : Int)] w fun e w' => e = .returned (.tuple #[.string s, .int .i64 0]) ∧ Below w.heap.size w w') := hide (fun w v hr => by
      have := c_sStoreSignal v xs (f : Int) w hr (by omega); unfold StoR at this; rw [HPR.out.st] at this; exact this)
    go_wp2_with fail
    refine (KS.out _ _ (OwI.rd HA2.out)).mono ?_; rintro e w3 ⟨rfl, hb⟩
    have HB3 := hide (bthen HB2.out hs2 hb); have HA3 := hide (own_all HA2.out hb); clear hb
    have hs3 := HB3.out.size
    go_wp2_with fail
    refine (c_sFr s _ _ (by omega) HOP.out.places).mono ?_; rintro e w4 ⟨vp, rfl, ho, hb⟩
    have HB4 := hide (bthen HB3.out hs3 hb); have HA4 : Sec (OwI 2 w4 w.heap.size va xs) := hide (own_all HA3.out hb); have HP4 : Sec (OwI 2 w4 w3.heap.size vp (t.map fun (x : Nat) => (x : Int))) := hide ho; clear hb ho
    have hs4 := HB4.out.size
    obtain ⟨Ap, capp, rfl, _, _, _⟩ := (OwI.rd HP4.out).open_
    obtain ⟨N, hN⟩ : ∃ N, nch xs.length f = N := ⟨_, rfl⟩
    have htl : (t.map fun (x : Nat) => (x : Int)).length = N + 1 := by rw [List.length_map, HOP.out.len, HCN.out, hN]
    rw [htl] at HP4 ⊢
    have HN := hide hN; clear hN htl
    have HC4 := hide (H2.out.below HB4.out)
    have eN : (N : Int) + 1 - 1 = (N : Int) := by omega
    have hN1 : N ≤ 6 := by
      rw [← HN.out]
      have := (nch_lt (n := xs.length) (f := f) (j := 6) (by omega)).1
      have h4 : ¬ (6 * f < xs.length) := by omega
      rcases Nat.lt_or_ge 6 (nch xs.length f) with h | h
      · exact absurd (this h) h4
      · exact h
    by_cases h0 : N = 0
    · have hNb : ((N : Int) == 0) = true := by rw [h0]; rfl
      clear h0
      go_wp2
      go_ret
      exact ⟨rfl, HB4.out⟩
    · have hNb : ((N : Int) == 0) = false := by simp; exact h0
      go_wp2_with fail
      refine (c_v8AtF _ c2 1 N _ HC4.out (by omega) (by omega) (by omega)).mono ?_; rintro e w5 ⟨rfl, hd⟩
      have hkN := atF_lt c2 1 N (by omega)
      generalize atF c2 1 N = k at *
      have HB5 := hide (Dr.below HB4.out hd); have HA5 : Sec (OwI 2 w5 w.heap.size va xs) := hide (by obtain ⟨n, rfl⟩ := hd; exact HA4.out); have HP5 : Sec (OwI 2 w5 w3.heap.size (.slice Ap (N + 1) capp) (t.map fun (x : Nat) => (x : Int))) := hide (by obtain ⟨n, rfl⟩ := hd; exact HP4.out); clear hd
      have hs5 := HB5.out.size
      obtain ⟨cap, w6, hcv, hcp1, hcp2, hb, hsz6, hcl, hfr6⟩ := conv_bytes w5 s (by omega)
      have HB6 := hide (bthen HB5.out hs5 hb); have HC := hide hcl; have HF := hide hfr6; have HZ6 := hide hsz6
      have HA6 := hide (own_all HA5.out hb); have HP6 : Sec (OwI 2 w6 w3.heap.size (.slice Ap (N + 1) capp) (t.map fun (x : Nat) => (x : Int))) := hide (own_all HP5.out hb); have HC6 := hide (H2.out.below HB6.out)
      clear hb hcl hfr6 hsz6
      have hs6 := HB6.out.size
      obtain ⟨bp, off, rfl, hbw, ce0, ce1, _, _, _⟩ := HOP.out.cells (j := k) (by rw [HCN.out, HN.out]; exact hkN) (OwI.rd HP6.out)
      obtain ⟨fl, hfl6, hfl65, hP1, hP1s, hhurt⟩ := HPR.out.pl k (by rw [HN.out]; exact hkN)
      generalize plc s (k + 1) = P1 at *
      obtain ⟨P0, hP0⟩ : ∃ P0, plc s k = P0 := ⟨_, rfl⟩
      rw [hP0] at ce0 hP1 hhurt
      have HHU := hide hhurt; clear hhurt hP0
      obtain ⟨k1, hk1⟩ : ∃ k1, k + 1 = k1 := ⟨_, rfl⟩
      rw [hk1] at ce1
      obtain ⟨P2, hP2⟩ : ∃ P2, P0 + 2 = P2 := ⟨_, rfl⟩
      obtain ⟨dd, hdd⟩ : ∃ dd, fl + 2 = dd := ⟨_, rfl⟩
      have hr := atF_lt c2 2 fl (by omega)
      have HQ : Sec (∀ n, Calls Try.prog 13 #[v2, .int .i64 2, .int .i64 (fl : Int)] (w6.drewN n) fun e w' => e = .returned (.int .i64 ((atF c2 2 fl : Nat) : Int)) ∧ ∃ m, w' = (w6.drewN n).drewN m) := hide (fun n => c_v8AtF v2 c2 2 fl (w6.drewN n) HC6.out (by omega) (by omega) (by omega))
      generalize atF c2 2 fl = r at *
      obtain ⟨at', hat⟩ : ∃ at', P2 + r = at' := ⟨_, rfl⟩
      have q1 : IntKind.i64.wrap ((P0 : Int) + 2) = (P2 : Int) := by rw [IntWalk.i64_in _ (by omega)]; omega
      have q2 : IntKind.i64.wrap ((k : Int) + 1) = (k1 : Int) := by rw [IntWalk.i64_in _ (by omega)]; omega
      have q3 : IntKind.i64.wrap ((P1 : Int) - (P0 : Int)) = (dd : Int) := by rw [IntWalk.i64_in _ (by omega)]; omega
      have q4 : IntKind.i64.wrap ((dd : Int) - 2) = (fl : Int) := by rw [IntWalk.i64_in _ (by omega)]; omega
      have q5 : IntKind.i64.wrap ((P2 : Int) + (r : Int)) = (at' : Int) := by rw [IntWalk.i64_in _ (by omega)]; omega
      have b1 : (k : Int) < (N : Int) + 1 := by omega
      have b2 : (k1 : Int) < (N : Int) + 1 := by omega
      have hats : at' < s.size := by omega
      have HAT := hide hat; have HP2 := hide hP2; clear hat hP2 hdd hk1 hP1
      go_wp2
      go_quiet ((go_at_call 13; exact Calls.quiet_of (HQ.out _)))
      have hy := bA_lt s at'
      have hce := HC.out at' hats; have hfe := HF.out at' hats
      generalize hyy : bA s at' = y at *
      have HYY := hide hyy; clear hyy
      have ta : (at' : Int) < (s.size : Int) := by omega
      clear q1 q2 q3 q4 q5 b1 b2 ce0 ce1 hbw
      go_wp2
      go_region_with (go_at_call 13; refine (c_v8AtF _ c2 3 255 _ (by exact HC6.out) (by omega) (by omega) (by omega)).mono ?_; rintro e _ ⟨rfl, n3, rfl⟩; have hd1 := atF_lt c2 3 255 (by omega); generalize atF c2 3 255 = d at *; obtain ⟨m, hm⟩ : ∃ m, 1 + d = m := ⟨_, rfl⟩; have hm1 : 1 ≤ m ∧ m < 256 := (by omega); obtain ⟨z, hz⟩ : ∃ z, y ^^^ m = z := ⟨_, rfl⟩; have e7 : IntKind.i64.wrap (1 + (d : Int)) = (m : Int) := (by rw [IntWalk.i64_in _ (by omega)]; omega); have e8 : IntKind.u8.wrap (m : Int) = (m : Int) := (IntWalk.u8_in _ (by omega)); have e9 : bits .xor .u8 (y : Int) (m : Int) = (z : Int) := (by rw [← hz]; exact u8_xor_nat y m hy (by omega)); have HZZ := hide hz; have HMM := hide hm1; clear hz hm hm1)
      all_goals
        have hz256 : z < 256 := by rw [← HZZ.out]; have := HMM.out; exact Nat.xor_lt_two_pow (n := 8) hy (by omega)
        have HNE := hide (show z ≠ y from fun e => by
          have h1 := HZZ.out; rw [e] at h1; have h2 : y ^^^ m = y ^^^ 0 := by rw [h1, Nat.xor_zero]
          have h3 := xor_cancel_left h2; have := HMM.out; omega)
        have hzn : (UInt8.ofNat z).toNat = z := by simp; omega
        have HRD := hide (fun (w' : World) (hw' : ∃ n, w' = w6.drewN n) => set_read (w := w') (B := w5.heap.size) (cap := cap) hzn (rfl : s.size = s.size) hcp1 hcp2 (by obtain ⟨n, rfl⟩ := hw'; show w5.heap.size < w6.heap.size; rw [HZ6.out]; omega) hats (by obtain ⟨n, rfl⟩ := hw'; exact HC.out))
        have hht : Hurt xs f k (mkS (s.data.toList.set at' (UInt8.ofNat z))) := by
          have h1 := HHU.out r hr (UInt8.ofNat z)
          rw [HP2.out, HAT.out, HYY.out, hzn] at h1
          exact h1 HNE.out
        have HHT := hide hht; clear hht
        have hmz : (mkS (s.data.toList.set at' (UInt8.ofNat z))).size ≤ 1048576 := by rw [size_mkS, List.length_set, Array.length_toList]; show s.size ≤ _; omega
        have HMZ := hide hmz; clear hmz
        have hst := fun n => str_of (HRD.out (w6.drewN n) ⟨n, rfl⟩)
        generalize s.data.toList.set at' (UInt8.ofNat z) = tl at *
        generalize hT : mkS tl = T at *
        clear hT
        have KD : Sec (∀ w, Calls Try.prog 16 #[.string T] w (SlR ([(k : Int)], 0) w)) := hide (fun w => by rw [← HHT.out.dmg]; exact c_iDamagedFrames T w HMZ.out)
        go_wp2_with fail
        refine (KD.out _).mono ?_; rintro e w8 ⟨vd, rfl, ho, hb⟩
        have HB8 := hide (bthen (((below_drewN HB6.out _).setCell hs5 _)) (by show _ ≤ (World.setCell _ _ _).heap.size; simp [World.setCell]; have := HB6.out.size; omega) hb)
        have HA8 : Sec (OwI 2 w8 w.heap.size va xs) := hide (own_all (OwI.far (show OwI 2 (w6.drewN _) w.heap.size va xs from HA6.out) (p := ⟨w5.heap.size, at', none⟩) (fun b hb => by have := (HA5.out.lt b hb).2; show b ≠ w5.heap.size; omega) _) hb)
        obtain ⟨Bd, hBd, hod⟩ : ∃ B, w.heap.size ≤ B ∧ OwI 2 w8 B vd [(k : Int)] := ⟨_, by show _ ≤ (World.setCell _ _ _).heap.size; simp [World.setCell]; have := HB6.out.size; omega, ho⟩
        have HD8 := hide hod; clear ho hb hod hst
        have hs8 := HB8.out.size
        obtain ⟨fr, hfr⟩ : ∃ fr, k * f = fr := ⟨_, rfl⟩
        have hkf : fr < xs.length := by have := (nch_lt (n := xs.length) (f := f) (j := k) (by omega)).1 (by rw [HN.out]; exact hkN); omega
        obtain ⟨to1, hto1⟩ : ∃ to1, fr + f = to1 := ⟨_, rfl⟩
        have hk1f : (k + 1) * f = to1 := by rw [Nat.add_mul, Nat.one_mul, hfr, hto1]
        obtain ⟨LST, hLST⟩ : ∃ LST, xs.take (k * f) ++ List.replicate (lenK xs.length f k) 0 ++ xs.drop ((k + 1) * f) = LST := ⟨_, rfl⟩
        have hml : lenK xs.length f k = min f (xs.length - fr) := by unfold lenK; rw [hfr]
        have htk : (xs.take fr).length = fr := by rw [List.length_take]; omega
        have hLl : LST.length = xs.length := by rw [← hLST, List.length_append, List.length_append, List.length_replicate, List.length_drop, hfr, hk1f, htk, hml]; omega
        have hL1 : LST.take fr = xs.take fr := by rw [← hLST, hfr, List.append_assoc, List.take_append_of_le_length (by omega), List.take_of_length_le (by omega)]
        have hL2 : LST.drop (fr + lenK xs.length f k) = xs.drop to1 := by
          have : (xs.take fr ++ List.replicate (lenK xs.length f k) (0 : Int)).length = fr + lenK xs.length f k := by rw [List.length_append, htk, List.length_replicate]
          rw [← hLST, hfr, hk1f, ← this, List.drop_left]
        have hL3 : (LST.drop fr).take (lenK xs.length f k) = List.replicate (lenK xs.length f k) 0 := by
          rw [← hLST, hfr, List.append_assoc]
          conv => lhs; arg 2; arg 1; rw [← htk]
          rw [List.drop_left, List.take_append_of_le_length (by rw [List.length_replicate]; omega), List.take_of_length_le (by rw [List.length_replicate]; omega)]
        have KV : Sec (∀ w, Calls Try.prog 17 #[.string T] w (Sl3 ((LST, [(k : Int)]), 0) w)) := hide (fun w => by rw [← hLST, ← HHT.out.slv]; exact c_iSalvageSignal T w HMZ.out)
        have KF : Sec (∀ w, Calls Try.prog 18 #[.string T, .int .i64 (k : Int)] w (SlR ([], 10) w)) := hide (fun w => by rw [← HHT.out.frame]; exact c_iLoadFrame T (k : Int) w HMZ.out)
        have KL : Sec (∀ w, Calls Try.prog 19 #[.string T] w (SlR ([], 10) w)) := hide (fun w => by rw [← HHT.out.load]; exact c_iLoadSignal T w HMZ.out)
        have KB : Sec (∀ w, Calls Try.prog 21 #[.string T, .int .i64 0, .int .i64 (fr : Int)] w (SlR (xs.take fr, 0) w)) := hide (fun w => by have := c_iLoadRange T ((0 : Nat) : Int) ((k * f : Nat) : Int) w HMZ.out; rw [HHT.out.before, hfr] at this; exact this)
        have KE : Sec (∀ w, Calls Try.prog 21 #[.string T, .int .i64 ((min to1 xs.length : Nat) : Int), .int .i64 ((xs.length - min to1 xs.length : Nat) : Int)] w (SlR (xs.drop (min to1 xs.length), 0) w)) := hide (fun w => by have := c_iLoadRange T ((min ((k + 1) * f) xs.length : Nat) : Int) ((xs.length - min ((k + 1) * f) xs.length : Nat) : Int) w HMZ.out; rw [HHT.out.behind, hk1f] at this; exact this)
        have ekf : (k : Int) * (f : Int) = (fr : Int) := by rw [← hfr]; simp
        have eto : (fr : Int) + (f : Int) = (to1 : Int) := by omega
        have HK1F := hide hk1f; have HML := hide hml; have HL1 := hide hL1; have HL2 := hide hL2; have HL3 := hide hL3; have HLL := hide hLl; clear hL1 hL2 hL3 hLST hfr hml hLl htk hk1f
        go_wp2_with fail
        refine (KV.out _).mono ?_; rintro e w9 ⟨vl, vg, rfl, hol, hog, _, hb⟩
        have HB9 := hide (bthen HB8.out hs8 hb); have HA9 := hide (own_all HA8.out hb); have HD9 := hide (own_all HD8.out hb); have hs9 := HB9.out.size
        obtain ⟨gl, capl, rfl, hcl1, hcl2⟩ := own_some hol HLL.out (by omega)
        have HL9 := hide (show OwI 2 w9 w8.heap.size (.slice (some ⟨gl, 0, none⟩) xs.length capl) LST from hol); have HG9 := hide (show OwI 2 w9 w8.heap.size vg [(k : Int)] from hog); clear hol hog hb
        go_wp2_with fail
        refine (KF.out _).mono ?_; rintro e w10 ⟨vf, rfl, _, hb⟩
        have HB10 := hide (bthen HB9.out hs9 hb); have HA10 := hide (own_all HA9.out hb); have HD10 := hide (own_all HD9.out hb); have HL10 := hide (own_all HL9.out hb); have HG10 := hide (own_all HG9.out hb); clear hb; have hs10 := HB10.out.size
        go_wp2_with fail
        refine (KL.out _).mono ?_; rintro e w11 ⟨vs, rfl, _, hb⟩
        have HB11 := hide (bthen HB10.out hs10 hb); have HA11 : Sec (OwI 2 w11 w.heap.size va xs) := hide (own_all HA10.out hb); have HD11 : Sec (OwI 2 w11 Bd vd [(k : Int)]) := hide (own_all HD10.out hb); have HL11 := hide (own_all HL10.out hb); have HG11 : Sec (OwI 2 w11 w8.heap.size vg [(k : Int)]) := hide (own_all HG10.out hb); clear hb; have hs11 := HB11.out.size
        obtain ⟨ga, capa, rfl, hca1, hca2⟩ := own_some HA11.out rfl (by omega)
        have hone := own_one 2 w11 w11.heap.size (Nat.le_refl _) (k : Int)
        have HONE := hide hone; clear hone
        have hal := (Below.refl w11.heap.size w11).alloc (Nat.le_refl _) (.cells #[.int .i64 (k : Int)] 2)
        have HAx := hide (show OwI 2 (w11.alloc (.cells #[.int .i64 (k : Int)] 2)) w.heap.size (.slice (some ⟨ga, 0, none⟩) xs.length capa) xs from own_all HA11.out hal); have HLx := hide (show OwI 2 (w11.alloc (.cells #[.int .i64 (k : Int)] 2)) w8.heap.size (.slice (some ⟨gl, 0, none⟩) xs.length capl) LST from own_all HL11.out hal); have HBx := hide (HB11.out.alloc HB11.out.size (.cells #[.int .i64 (k : Int)] 2)); clear hal
        have hcaI : (xs.length : Int) ≤ (capa : Int) := by omega
        have hclI : (xs.length : Int) ≤ (capl : Int) := by omega
        have hfI : (fr : Int) ≤ (xs.length : Int) := by omega
        have hfc : (fr : Int) < (capl : Int) := by omega
        have hfc2 : fr < capl := by omega
        have hfa : (fr : Int) < (capa : Int) := by omega
        have hfa2 : fr < capa := by omega
        have hca0 : 0 < capa := by omega
        have hcl0 : 0 < capl := by omega
        rcases (show xs.length < to1 ∨ to1 = xs.length ∨ to1 < xs.length by omega) with hto | hto | hto
        · have hgt : (xs.length : Int) < (to1 : Int) := by omega
          have hmin : min to1 xs.length = xs.length := by omega
          have KE2 : Sec (∀ w, Calls Try.prog 21 #[.string T, .int .i64 (xs.length : Int), .int .i64 0] w (SlR ([], 0) w)) := hide (fun w => by have := KE.out w; rw [hmin, Nat.sub_self, List.drop_length] at this; exact this)
          have hm2 : xs.length - fr = lenK xs.length f k := by rw [HML.out]; omega
          clear hmin
          obtain ⟨ml, hmle⟩ : ∃ ml, lenK xs.length f k = ml := ⟨_, rfl⟩
          rw [hmle] at hm2 HL3
          clear hmle
          go_wp2_with (first | (go_at_call_of 20 vg; refine (c_v8Same _ _ [(k : Int)] [(k : Int)] _ (RdI.drw (Rd.alloc (OwI.rd HG11.out) _) hd4) (RdI.drw (Rd.alloc (OwI.rd HD11.out) _) hd4)).mono ?_; rw [decide_eq_true (rfl : [(k : Int)] = [(k : Int)])]; rintro e wy ⟨rfl, hd5⟩) | (go_at_call 20; refine (c_v8Same _ _ [(k : Int)] [(k : Int)] _ (Rd.alloc (OwI.rd HD11.out) _) (OwI.rd HONE.out)).mono ?_; rw [decide_eq_true (rfl : [(k : Int)] = [(k : Int)])]; rintro e wx ⟨rfl, hd4⟩))
          have HBy := hide (Dr.below (Dr.below HBx.out hd4) hd5); have HAy := hide (OwI.drw (OwI.drw HAx.out hd4) hd5); have HLy := hide (OwI.drw (OwI.drw HLx.out hd4) hd5); clear hd4 hd5
          have hsy := HBy.out.size
          refine (KB.out _).mono ?_; rintro e w12 ⟨vb, rfl, ho, hb⟩
          have HB12 := hide (bthen HBy.out hsy hb); have HA12 := hide (own_all HAy.out hb); have HL12 := hide (own_all HLy.out hb); have HVB12 : Sec (OwI 2 w12 wy.heap.size vb (xs.take fr)) := hide ho; clear hb ho; have hs12 := HB12.out.size
          go_wp2_with fail
          refine (KE2.out _).mono ?_; rintro e w13 ⟨ve, rfl, ho, hb⟩
          have HB13 := hide (bthen HB12.out hs12 hb); have HA13 := hide (OwI.rd (own_all HA12.out hb)); have HL13 := hide (OwI.rd (own_all HL12.out hb)); have HVB13 := hide (OwI.rd (own_all HVB12.out hb)); have HVE13 : Sec (RdI w13 ve []) := hide (OwI.rd ho); clear hb ho
          have HAH := hide (RdI_head HA13.out (hi := fr) (by omega))
          have HLH : Sec (RdI w13 (.slice (some ⟨gl, 0, none⟩) fr capl) (xs.take fr)) := hide (by rw [← HL1.out]; exact RdI_head HL13.out (by omega))
          have HZR : Sec (RdI w13 (.slice (some ⟨gl, fr, none⟩) ml (capl - fr)) (List.replicate ml 0)) := hide (by have := RdI_sub0 HL13.out (lo := fr) (hi := xs.length) (by omega) (by omega); rw [hm2, HL3.out] at this; exact this)
          by_cases hxa : capa = xs.length <;> by_cases hxl2 : capl = xs.length
          all_goals
            first | subst hxa | (have hxa1 : (xs.length : Int) < (capa : Int) := (by omega); have hxa2 : xs.length < capa := (by omega))
            first | subst hxl2 | (have hxl1 : (xs.length : Int) < (capl : Int) := (by omega); have hxl3 : xs.length < capl := (by omega))
            try rw [hm2] at HZR
            go_wp2
            go_quiet (first | (go_at_call_of 20 vb; exact Calls.quiet_of (same_quiet HVB13.out HAH.out _)) | (go_at_call_of 20 ve; refine Calls.quiet_of (same_quiet HVE13.out (RdI_zero _ _ _ ?_) _); omega) | (go_at_call_of 20 fr; exact Calls.quiet_of (same_quiet HLH.out HAH.out _)) | (go_at_call 20; refine Calls.quiet_of (same_quiet (RdI_zero _ _ _ ?_) (RdI_zero _ _ _ ?_) _) <;> omega) | (go_at_call 22; exact Calls.quiet_of_same (zeros_quiet HZR.out _)))
            go_wp2
            go_ret
            exact ⟨rfl, below_drewN HB13.out _⟩
        · have hmin : min to1 xs.length = xs.length := by omega
          have KE2 : Sec (∀ w, Calls Try.prog 21 #[.string T, .int .i64 (xs.length : Int), .int .i64 0] w (SlR ([], 0) w)) := hide (fun w => by have := KE.out w; rw [hmin, Nat.sub_self, List.drop_length] at this; exact this)
          have hm2 : xs.length - fr = lenK xs.length f k := by rw [HML.out]; omega
          clear hmin
          subst hto
          obtain ⟨ml, hmle⟩ : ∃ ml, lenK xs.length f k = ml := ⟨_, rfl⟩
          rw [hmle] at hm2 HL3
          clear hmle
          go_wp2_with (first | (go_at_call_of 20 vg; refine (c_v8Same _ _ [(k : Int)] [(k : Int)] _ (RdI.drw (Rd.alloc (OwI.rd HG11.out) _) hd4) (RdI.drw (Rd.alloc (OwI.rd HD11.out) _) hd4)).mono ?_; rw [decide_eq_true (rfl : [(k : Int)] = [(k : Int)])]; rintro e wy ⟨rfl, hd5⟩) | (go_at_call 20; refine (c_v8Same _ _ [(k : Int)] [(k : Int)] _ (Rd.alloc (OwI.rd HD11.out) _) (OwI.rd HONE.out)).mono ?_; rw [decide_eq_true (rfl : [(k : Int)] = [(k : Int)])]; rintro e wx ⟨rfl, hd4⟩))
          have HBy := hide (Dr.below (Dr.below HBx.out hd4) hd5); have HAy := hide (OwI.drw (OwI.drw HAx.out hd4) hd5); have HLy := hide (OwI.drw (OwI.drw HLx.out hd4) hd5); clear hd4 hd5
          have hsy := HBy.out.size
          refine (KB.out _).mono ?_; rintro e w12 ⟨vb, rfl, ho, hb⟩
          have HB12 := hide (bthen HBy.out hsy hb); have HA12 := hide (own_all HAy.out hb); have HL12 := hide (own_all HLy.out hb); have HVB12 : Sec (OwI 2 w12 wy.heap.size vb (xs.take fr)) := hide ho; clear hb ho; have hs12 := HB12.out.size
          go_wp2_with fail
          refine (KE2.out _).mono ?_; rintro e w13 ⟨ve, rfl, ho, hb⟩
          have HB13 := hide (bthen HB12.out hs12 hb); have HA13 := hide (OwI.rd (own_all HA12.out hb)); have HL13 := hide (OwI.rd (own_all HL12.out hb)); have HVB13 := hide (OwI.rd (own_all HVB12.out hb)); have HVE13 : Sec (RdI w13 ve []) := hide (OwI.rd ho); clear hb ho
          have HAH := hide (RdI_head HA13.out (hi := fr) (by omega))
          have HLH : Sec (RdI w13 (.slice (some ⟨gl, 0, none⟩) fr capl) (xs.take fr)) := hide (by rw [← HL1.out]; exact RdI_head HL13.out (by omega))
          have HZR : Sec (RdI w13 (.slice (some ⟨gl, fr, none⟩) ml (capl - fr)) (List.replicate ml 0)) := hide (by have := RdI_sub0 HL13.out (lo := fr) (hi := xs.length) (by omega) (by omega); rw [hm2, HL3.out] at this; exact this)
          by_cases hxa : capa = xs.length <;> by_cases hxl2 : capl = xs.length
          all_goals
            first | subst hxa | (have hxa1 : (xs.length : Int) < (capa : Int) := (by omega); have hxa2 : xs.length < capa := (by omega))
            first | subst hxl2 | (have hxl1 : (xs.length : Int) < (capl : Int) := (by omega); have hxl3 : xs.length < capl := (by omega))
            try rw [hm2] at HZR
            go_wp2
            go_quiet (first | (go_at_call_of 20 vb; exact Calls.quiet_of (same_quiet HVB13.out HAH.out _)) | (go_at_call_of 20 ve; refine Calls.quiet_of (same_quiet HVE13.out (RdI_zero _ _ _ ?_) _); omega) | (go_at_call_of 20 fr; exact Calls.quiet_of (same_quiet HLH.out HAH.out _)) | (go_at_call 20; refine Calls.quiet_of (same_quiet (RdI_zero _ _ _ ?_) (RdI_zero _ _ _ ?_) _) <;> omega) | (go_at_call 22; exact Calls.quiet_of_same (zeros_quiet HZR.out _)))
            go_wp2
            go_ret
            exact ⟨rfl, below_drewN HB13.out _⟩
        · have hgt : ¬ (xs.length : Int) < (to1 : Int) := by omega
          have hgt2 : (to1 : Int) ≤ (xs.length : Int) := by omega
          have hmin : min to1 xs.length = to1 := by omega
          obtain ⟨q, hq⟩ : ∃ q, xs.length - to1 = q := ⟨_, rfl⟩
          have eq1 : (xs.length : Int) - (to1 : Int) = (q : Int) := by omega
          have KE2 : Sec (∀ w, Calls Try.prog 21 #[.string T, .int .i64 (to1 : Int), .int .i64 (q : Int)] w (SlR (xs.drop to1, 0) w)) := hide (fun w => by have := KE.out w; rw [hmin, hq] at this; exact this)
          have hm2 : to1 - fr = lenK xs.length f k := by rw [HML.out]; omega
          have hL2 : LST.drop to1 = xs.drop to1 := by rw [← HL2.out]; congr 1; omega
          have HLD := hide hL2; clear hL2 hmin
          have hta : (to1 : Int) < (capa : Int) := by omega
          have htl2 : (to1 : Int) < (capl : Int) := by omega
          have hta3 : to1 < capa := by omega
          have htl3 : to1 < capl := by omega
          have hft : (fr : Int) ≤ (to1 : Int) := by omega
          obtain ⟨ml, hmle⟩ : ∃ ml, lenK xs.length f k = ml := ⟨_, rfl⟩
          rw [hmle] at hm2 HL3
          clear hmle
          go_wp2_with (first | (go_at_call_of 20 vg; refine (c_v8Same _ _ [(k : Int)] [(k : Int)] _ (RdI.drw (Rd.alloc (OwI.rd HG11.out) _) hd4) (RdI.drw (Rd.alloc (OwI.rd HD11.out) _) hd4)).mono ?_; rw [decide_eq_true (rfl : [(k : Int)] = [(k : Int)])]; rintro e wy ⟨rfl, hd5⟩) | (go_at_call 20; refine (c_v8Same _ _ [(k : Int)] [(k : Int)] _ (Rd.alloc (OwI.rd HD11.out) _) (OwI.rd HONE.out)).mono ?_; rw [decide_eq_true (rfl : [(k : Int)] = [(k : Int)])]; rintro e wx ⟨rfl, hd4⟩))
          have HBy := hide (Dr.below (Dr.below HBx.out hd4) hd5); have HAy := hide (OwI.drw (OwI.drw HAx.out hd4) hd5); have HLy := hide (OwI.drw (OwI.drw HLx.out hd4) hd5); clear hd4 hd5
          have hsy := HBy.out.size
          refine (KB.out _).mono ?_; rintro e w12 ⟨vb, rfl, ho, hb⟩
          have HB12 := hide (bthen HBy.out hsy hb); have HA12 := hide (own_all HAy.out hb); have HL12 := hide (own_all HLy.out hb); have HVB12 : Sec (OwI 2 w12 wy.heap.size vb (xs.take fr)) := hide ho; clear hb ho; have hs12 := HB12.out.size
          go_wp2_with fail
          refine (KE2.out _).mono ?_; rintro e w13 ⟨ve, rfl, ho, hb⟩
          have HB13 := hide (bthen HB12.out hs12 hb); have HA13 := hide (OwI.rd (own_all HA12.out hb)); have HL13 := hide (OwI.rd (own_all HL12.out hb)); have HVB13 := hide (OwI.rd (own_all HVB12.out hb)); have HVE13 : Sec (RdI w13 ve (xs.drop to1)) := hide (OwI.rd ho); clear hb ho
          have HAH := hide (RdI_head HA13.out (hi := fr) (by omega))
          have HLH : Sec (RdI w13 (.slice (some ⟨gl, 0, none⟩) fr capl) (xs.take fr)) := hide (by rw [← HL1.out]; exact RdI_head HL13.out (by omega))
          have HZR : Sec (RdI w13 (.slice (some ⟨gl, fr, none⟩) ml (capl - fr)) (List.replicate ml 0)) := hide (by have := RdI_sub0 HL13.out (lo := fr) (hi := to1) (by omega) (by omega); rw [hm2, HL3.out] at this; exact this)
          have HTA : Sec (RdI w13 (.slice (some ⟨ga, to1, none⟩) q (capa - to1)) (xs.drop to1)) := hide (by have := RdI_tail HA13.out rfl (lo := to1) (by omega); rw [hq] at this; exact this)
          have HTL : Sec (RdI w13 (.slice (some ⟨gl, to1, none⟩) q (capl - to1)) (xs.drop to1)) := hide (by have := RdI_tail HL13.out HLL.out (lo := to1) (by omega); rw [hq, HLD.out] at this; exact this)
          go_wp2
          go_quiet (first | (go_at_call_of 20 vb; exact Calls.quiet_of (same_quiet HVB13.out HAH.out _)) | (go_at_call_of 20 ve; exact Calls.quiet_of (same_quiet HVE13.out HTA.out _)) | (go_at_call_of 20 fr; exact Calls.quiet_of (same_quiet HLH.out HAH.out _)) | (go_at_call 20; exact Calls.quiet_of (same_quiet HTL.out HTA.out _)) | (go_at_call 22; exact Calls.quiet_of_same (zeros_quiet HZR.out _)))
          go_wp2
          go_ret
          exact ⟨rfl, below_drewN HB13.out _⟩
  · have HL := hide hlong; clear hlong
    go_enter Try.func4, Try.ntmps4
    go_wp2_with fail
    refine (c_v8Long _ _ c1 c2 _ H1.out H2.out).mono ?_; rw [HL.out]; rintro e _ ⟨rfl, rfl⟩
    go_wp2
    go_ret
    exact ⟨rfl, Below.refl _ _⟩
end Go.Proofs.Ytpmflkoepnanoaa
