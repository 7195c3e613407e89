/- Contracts: a line of changes read by the program. -/
import Derived.Test.YtjbcanihpcfncaaDoorYf
namespace Go.Proofs.YtjbcanihpcfncaaDoor
open Go.RowKit
/-- The library's error values lie where its text says. -/
def EV (w : World) : Prop := (∃ ev, w.cell? ⟨1, 0, none⟩ = some ev ∧ (ev = .nilIface ∨ ∃ te pe, ev = .iface te pe)) ∧ ∃ ev, w.cell? ⟨2, 0, none⟩ = some ev ∧ (ev = .nilIface ∨ ∃ te pe, ev = .iface te pe)
theorem EV.below {w w' : World} (h : EV w) (hb : Below w.heap.size w w') : EV w' := by
  obtain ⟨⟨e1, h1, k1⟩, e2, h2, k2⟩ := h
  exact ⟨⟨e1, (hb.cell (World.block_lt_of_cell? w _ h1)).trans h1, k1⟩, e2, (hb.cell (World.block_lt_of_cell? w _ h2)).trans h2, k2⟩
theorem numF_of_ok {l : List UInt8} {v : Int} (h : Lib.parseIntB 64 l = .ok v) : numF l = if decL v = l ∧ (bareL l).length ≤ 18 then some v else none := by
  by_cases hq : decL v = l ∧ (bareL l).length ≤ 18
  · rw [if_pos hq]; exact numF_iff.2 hq
  · rw [if_neg hq]
    cases hn : numF l with
    | none => rfl
    | some u =>
      exfalso
      obtain ⟨h1, h2⟩ := numF_iff.1 hn
      have hb := bareL_dec u
      rw [h1] at hb
      rw [hb] at h2
      have hu := numV_lt (Lib.decDigits u.natAbs) 0 (dec_digits u.natAbs).1
      rw [(dec_digits u.natAbs).2.1] at hu
      have h3 : 10 ^ (Lib.decDigits u.natAbs).length ≤ 10 ^ 18 := Nat.pow_le_pow_right (by omega) h2
      have hp := parse_dec (n := u) (by omega) (by omega)
      rw [h1, h] at hp
      injection hp with hp
      subst hp
      exact hq ⟨h1, by rw [hb]; exact h2⟩
theorem numF_of_bad {l : List UInt8} (h : ∀ v, Lib.parseIntB 64 l ≠ .ok v) : numF l = none := by
  cases hn : numF l with
  | none => rfl
  | some u =>
    exfalso
    obtain ⟨h1, h2⟩ := numF_iff.1 hn
    have hb := bareL_dec u
    rw [h1] at hb
    rw [hb] at h2
    have hu := numV_lt (Lib.decDigits u.natAbs) 0 (dec_digits u.natAbs).1
    rw [(dec_digits u.natAbs).2.1] at hu
    have h3 : 10 ^ (Lib.decDigits u.natAbs).length ≤ 10 ^ 18 := Nat.pow_le_pow_right (by omega) h2
    have hp := parse_dec (n := u) (by omega) (by omega)
    rw [h1] at hp
    exact h u hp
theorem trim_bare (l : List UInt8) : Lib.trimPrefix l [45] = bareL l := by
  unfold Lib.trimPrefix Lib.hasPrefix
  cases l with
  | nil => rfl
  | cons b t =>
    by_cases hb : b = 45
    · subst hb; simp [bareL, List.isPrefixOf]
    · have : (45 == b) = false := by simp; exact fun e => hb e.symm
      simp [bareL, hb, List.isPrefixOf, this]
theorem parse_bd {l : List UInt8} {v : Int} (h : Lib.parseIntB 64 l = .ok v) : -9223372036854775808 ≤ v ∧ v ≤ 9223372036854775807 := by
  rw [Lib.parseIntB_64] at h
  cases l with
  | nil => simp [Lib.atoiAll] at h
  | cons c r =>
    simp only [Lib.atoiAll] at h
    cases hm : Lib.parseMag (if c.toNat = 43 ∨ c.toNat = 45 then r else c :: r) with
    | «syntax» => rw [hm] at h; simp at h
    | range => rw [hm] at h; simp at h
    | ok u =>
      rw [hm] at h
      simp only at h
      by_cases hn : c.toNat = 45
      · simp only [hn, not_true_eq_false, false_and, if_false, true_and, if_true] at h
        split at h
        · cases h
        · injection h with h; omega
      · simp only [hn, not_false_eq_true, true_and, false_and, if_false] at h
        split at h
        · cases h
        · injection h with h; omega
set_option maxHeartbeats 1000000 in
set_option maxRecDepth 20000 in
theorem c_iReadDec (s : ByteArray) (w : World) (hs : s.size ≤ 1048576) (ht : TB w) (hev : EV w) :
    Calls Tryd.prog 28 #[.string s] w fun e w' => e = .returned (.tuple #[.int .i64 ((numF s.data.toList).getD 0), .bool (numF s.data.toList).isSome]) ∧ Below w.heap.size w w' := by
  obtain ⟨⟨e1, he1, hk1⟩, e2, he2, hk2⟩ := hev
  have HT := hide ht; clear ht
  cases hp : Lib.parseIntB 64 s.data.toList with
  | ok v =>
    have HP := hide (Tryd.strconv_ParseInt_10_at64_ok s (by omega) v hp w)
    have HNF := hide (numF_of_ok hp)
    obtain ⟨hv0, hv1⟩ := parse_bd hp
    have htrim : Lib.trimPrefix s.data.toList (⟨#[45]⟩ : ByteArray).data.toList = bareL s.data.toList := trim_bare _
    have hne : ((decS v).toList == s.toList) = decide (decL v = s.data.toList) := by rw [toList_eq, toList_eq]; unfold decS; rw [data_mkS]; rw [Bool.eq_iff_iff]; simp
    have hbl : (bareL s.data.toList).length ≤ 1048576 := by
      have h0 : s.data.toList.length = s.size := Array.length_toList
      unfold bareL
      split
      · simp
      · next b t hh => rw [hh] at h0; split <;> (simp at h0 ⊢; omega)
    have hsz : (⟨(bareL s.data.toList).toArray⟩ : ByteArray).size = (bareL s.data.toList).length := by simp [ByteArray.size]
    clear hp
    generalize hB : bareL s.data.toList = bl at *
    have HTR := hide htrim; have HNE := hide hne; have HSZ := hide hsz
    clear htrim hne hsz hB
    go_enter Tryd.func28, Tryd.ntmps28
    go_wp2_with fail
    refine HP.out.mono ?_; rintro e w1 ⟨rfl, hw⟩
    have hb : Below w.heap.size w w1 := by
      rcases hw with rfl | ⟨t, rfl⟩
      · exact Below.refl _ _
      · exact Lib.bytesWorld_below _ _ _
    have hTB := HT.out.below hb
    have HB := hide hb; clear hb hw
    have HTB := hide hTB; clear hTB
    by_cases h1 : decL v = s.data.toList
    · have hx : ((decS v).toList == s.toList) = true := by rw [HNE.out]; exact decide_eq_true h1
      by_cases h2 : bl.length ≤ 18
      · have hr : numF s.data.toList = some v := by rw [HNF.out, if_pos ⟨h1, h2⟩]
        have HR := hide hr
        clear hr h1
        generalize hD : decS v = D at *
        have HD := hide hD; clear hD
        go_wp2_with (first | (go_at_call 31; refine (c_iDec v _ HTB.out hv0 hv1).mono ?_; rintro e w2 ⟨rfl, hb2⟩; rw [HD.out]; have HB2 := hide (bthen HB.out HB.out.size hb2); clear hb2) | (go_at_call 27; refine (Tryd.strings_TrimPrefix _ _ _).mono ?_; rintro e w3 ⟨rfl, rfl⟩; rw [HTR.out]; have hq := HSZ.out))
        go_ret2
        exact ⟨by rw [HR.out]; rfl, HB2.out⟩
      · have hr : numF s.data.toList = none := by rw [HNF.out, if_neg (fun h => h2 h.2)]
        have HR := hide hr
        clear hr h1
        generalize hD : decS v = D at *
        have HD := hide hD; clear hD
        go_wp2_with (first | (go_at_call 31; refine (c_iDec v _ HTB.out hv0 hv1).mono ?_; rintro e w2 ⟨rfl, hb2⟩; rw [HD.out]; have HB2 := hide (bthen HB.out HB.out.size hb2); clear hb2) | (go_at_call 27; refine (Tryd.strings_TrimPrefix _ _ _).mono ?_; rintro e w3 ⟨rfl, rfl⟩; rw [HTR.out]; have hq := HSZ.out))
        go_ret2
        exact ⟨by rw [HR.out]; rfl, HB2.out⟩
    · have hx : ((decS v).toList == s.toList) = false := by rw [HNE.out]; exact decide_eq_false h1
      have hr : numF s.data.toList = none := by rw [HNF.out, if_neg (fun h => h1 h.1)]
      have HR := hide hr
      clear hr h1
      generalize hD : decS v = D at *
      have HD := hide hD; clear hD
      go_wp2_with (first | (go_at_call 31; refine (c_iDec v _ HTB.out hv0 hv1).mono ?_; rintro e w2 ⟨rfl, hb2⟩; rw [HD.out]; have HB2 := hide (bthen HB.out HB.out.size hb2); clear hb2) | (go_at_call 27; refine (Tryd.strings_TrimPrefix _ _ _).mono ?_; rintro e w3 ⟨rfl, rfl⟩; rw [HTR.out]; have hq := HSZ.out))
      go_ret2
      exact ⟨by rw [HR.out]; rfl, HB2.out⟩
  | «syntax» =>
    have hr : numF s.data.toList = none := numF_of_bad (by rw [hp]; simp)
    rw [hr]
    have HP := hide (Tryd.strconv_ParseInt_10_at64_syntax s (by omega) hp e1 w he1 hk1)
    clear hp hr
    go_enter Tryd.func28, Tryd.ntmps28
    go_wp2_with fail
    refine HP.out.mono ?_; rintro e w1 ⟨N, rfl, _, _, hb⟩
    have HB := hide hb; clear hb
    go_wp2
    go_ret2
    exact ⟨rfl, HB.out⟩
  | range =>
    have hr : numF s.data.toList = none := numF_of_bad (by rw [hp]; simp)
    rw [hr]
    have HP := hide (Tryd.strconv_ParseInt_10_at64_range s (by omega) hp e2 w he2 hk2)
    clear hp hr
    go_enter Tryd.func28, Tryd.ntmps28
    go_wp2_with fail
    refine HP.out.mono ?_; rintro e w1 ⟨N, rfl, _, _, hb⟩
    have HB := hide hb; clear hb
    go_wp2
    go_ret2
    exact ⟨rfl, HB.out⟩
set_option maxHeartbeats 1000000 in
theorem c_lCut (s : ByteArray) (w : World) (hs : s.size ≤ 1048576) : Calls Tryd.prog 33 #[.string s, .string ⟨#[32]⟩] w fun e w' => ∃ b, e = .returned (.tuple #[.string (mkS (hdL s.data.toList)), .string (mkS (rsL s.data.toList)), .bool b]) ∧ Dr w w' := by
  have hl : s.data.toList.length = s.size := Array.length_toList
  obtain ⟨f1, f2⟩ := fst_idx 32 s.data.toList
  rw [hl] at f1 f2
  have e1 : mkS (hdL s.data.toList) = s.extract 0 (fstI 32 s.data.toList) := (mkS_take s _).symm
  have e2 : mkS (rsL s.data.toList) = s.extract (fstI 32 s.data.toList + 1) s.size := by
    rw [mkS_sub]; unfold rsL
    rw [List.take_of_length_le (by rw [List.length_drop, hl]; omega)]
  by_cases h : fstI 32 s.data.toList < s.size
  · have f := f1 h
    rw [e1, e2]
    clear f1 f2 e1 e2 hl
    generalize fstI 32 s.data.toList = i at *
    have h1 : (⟨#[32]⟩ : ByteArray).size = 1 := rfl
    have c1 : i ≤ s.size := by omega
    have c2 : i + 1 ≤ s.size := by omega
    have mixed : Tryd.prog.follows Departure.mixedOrders = true := by kernel_rfl
    go_enter Tryd.func33, Tryd.ntmps33
    go_wp2_with (go_at_call 41; refine (Tryd.stringslite_Index_one s 32 _).mono ?_; rintro e w' ⟨rfl, rfl⟩; rw [f])
    go_region_o
    go_wp2
    go_ret3
    exact ⟨_, rfl, ⟨1, rfl⟩⟩
  · have f := f2 h
    have e3 : s.extract 0 (fstI 32 s.data.toList) = s := by
      rw [mkS_take, List.take_of_length_le (by rw [hl]; omega), mkS_data]
    have e4 : s.extract (fstI 32 s.data.toList + 1) s.size = ⟨#[]⟩ := by
      rw [mkS_sub, List.drop_eq_nil_of_le (by rw [hl]; omega), List.take_nil]; rfl
    rw [e1, e2, e3, e4]
    clear f1 f2 e1 e2 hl e3 e4
    go_enter Tryd.func33, Tryd.ntmps33
    go_wp2_with (go_at_call 41; refine (Tryd.stringslite_Index_one s 32 _).mono ?_; rintro e w' ⟨rfl, rfl⟩; rw [f])
    go_ret3
    exact ⟨_, rfl, ⟨0, rfl⟩⟩
theorem c_Cut32 (s : ByteArray) (w : World) (hs : s.size ≤ 1048576) : Calls Tryd.prog 25 #[.string s, .string ⟨#[32]⟩] w fun e w' => ∃ b, e = .returned (.tuple #[.string (mkS (hdL s.data.toList)), .string (mkS (rsL s.data.toList)), .bool b]) ∧ Dr w w' := by
  go_enter Tryd.func25, Tryd.ntmps25
  go_wp2_with fail
  refine (c_lCut s _ hs).mono ?_; rintro e w1 ⟨b, rfl, hd⟩
  have HD := hide hd; clear hd
  go_wp2
  go_ret3
  exact ⟨_, rfl, HD.out⟩
theorem hdL_len (l : List UInt8) : (hdL l).length ≤ l.length := by unfold hdL; rw [List.length_take]; omega
theorem pre_plus (l : List UInt8) : Lib.hasPrefix l [43] = decide (l.head? = some 43) := by
  unfold Lib.hasPrefix
  cases l with
  | nil => rfl
  | cons b t =>
    by_cases hb : b = 43
    · subst hb; simp [List.isPrefixOf]
    · have : (43 == b) = false := by simp; exact fun e => hb e.symm
      simp [hb, List.isPrefixOf, this]
theorem Bk.born1 (w : World) (o : Obj) (t : TypeId) (cs : Array Value) : Bk ((w.alloc o).alloc (.cells cs t)) (w.heap.size + 1) t cs := by
  have := Bk.born (w.alloc o) t cs
  simpa using this
set_option maxHeartbeats 1000000 in
set_option maxRecDepth 20000 in
theorem c_readChange (s : ByteArray) (w : World) (hs : s.size ≤ 1048576) (ht : TB w) (hev : EV w) :
    Calls Tryd.prog 15 #[.string s] w fun e w' => e = .returned (.tuple #[.agg #[.int .i64 (pI s.data.toList).k, .int .i64 (pI s.data.toList).p, .string (pI s.data.toList).t], .bool (pOk s.data.toList)]) ∧ Below w.heap.size w w' := by
  have hp : pI s.data.toList = ⟨(signN (hdL s.data.toList)).2, (numF (signN (hdL s.data.toList)).1).getD 0, mkS (rsL s.data.toList)⟩ := rfl
  have ho : pOk s.data.toList = (numF (signN (hdL s.data.toList)).1).isSome := rfl
  have hhl : (hdL s.data.toList).length ≤ 1048576 := Nat.le_trans (hdL_len _) (by rw [Array.length_toList]; exact hs)
  rw [hp, ho]
  have HC := hide (c_Cut32 s · hs)
  clear hp ho
  generalize mkS (rsL s.data.toList) = R at *
  generalize hdL s.data.toList = h at *
  have HT := hide ht; have HE := hide hev; clear ht hev
  have hpp := pre_plus h
  have hz : (mkS h).data.toList = h := data_mkS h
  by_cases h43 : h.head? = some 43
  · rw [decide_eq_true h43] at hpp
    have hsn : signN h = (h.drop 1, 2) := by
      cases h with
      | nil => simp at h43
      | cons b t => simp at h43; simp [signN, h43]
    have htr : Lib.trimPrefix h [43] = h.drop 1 := by unfold Lib.trimPrefix; rw [hpp]; rfl
    have hdl : (h.drop 1).length ≤ 1048576 := by rw [List.length_drop]; omega
    rw [hsn]
    have HPP := hide hpp; have HTR := hide htr; clear hpp htr hsn h43
    generalize h.drop 1 = t at *
    have htz : (mkS t).size ≤ 1048576 := by rw [size_mkS]; exact hdl
    have HR := hide (fun W h1 h2 => c_iReadDec (mkS t) W htz h1 h2)
    rw [data_mkS] at HR
    have HMT : Sec ((⟨t.toArray⟩ : ByteArray) = mkS t) := hide rfl
    have HZ : Sec ((mkS h).data.toList = h) := hide hz
    clear hz
    generalize hF : numF t = F at *
    have HF := hide hF; clear hF
    go_enter Tryd.func15, Tryd.ntmps15
    go_wp2_with (first | (go_at_call 25; refine (HC.out _).mono ?_; rintro e w1 ⟨b, rfl, n, rfl⟩) | (go_at_call 26; refine (Tryd.strings_CutPrefix _ _ _).mono ?_; rintro e w2 ⟨rfl, rfl⟩; rw [show (⟨#[43]⟩ : ByteArray).data.toList = [43] from rfl, HZ.out, HTR.out, HPP.out, HMT.out]))
    have hB0 : Below w.heap.size w ((((w.alloc (.cells #[.int .i64 0, .int .i64 0, .string ⟨#[]⟩] 35)).alloc (.cells #[.int .i64 1, .int .i64 0, .string ⟨#[]⟩] 35)).drewN n).setCell ⟨w.heap.size + 1, 0, none⟩ (.int .i64 2)) := (below_drewN (((Below.refl _ _).alloc (Nat.le_refl _) _).alloc (by simp) _) _).setCell (by simp) _
    have hT1 := HT.out.below hB0
    have hE1 := HE.out.below hB0
    refine (HR.out _ hT1 hE1).mono ?_; clear hT1 hE1; rintro e w3 ⟨rfl, hb⟩
    have K1 := (((Bk.born1 w (.cells #[.int .i64 0, .int .i64 0, .string ⟨#[]⟩] 35) 35 #[.int .i64 1, .int .i64 0, .string ⟨#[]⟩]).drewN n).set_ 0 (.int .i64 2)).below hb (by simp [World.setCell])
    have K0 := ((((Bk.born w 35 #[.int .i64 0, .int .i64 0, .string ⟨#[]⟩]).alloc (.cells #[.int .i64 1, .int .i64 0, .string ⟨#[]⟩] 35)).drewN n).far (p := ⟨w.heap.size + 1, 0, none⟩) (by simp) (.int .i64 2)).below hb (by simp [World.setCell]; try omega)
    have k1 := K1.cell; have f1 := K1.free; have k0 := K0.cell; have f0 := K0.free
    have HB := hide (show Below w.heap.size w w3 from bthen hB0 (by simp [World.setCell]; try omega) hb)
    clear hb K1 K0 hB0
    go_wp2
    refine bodyPost_ret (v := .tuple #[.agg #[.int .i64 2, .int .i64 (F.getD 0), .string R], .bool F.isSome]) (by simp [results, Tryd.results15, go_sem, k0, f0, k1, f1]) rfl ?_
    have hB := HB.out
    exact ⟨rfl, (by repeat (first | with_reducible exact Below.refl _ _ | with_reducible assumption | with_reducible refine Below.setCell ?_ (by simp <;> omega) _ | with_reducible refine Below.alloc ?_ (by simp <;> omega) _ | with_reducible refine Below.drew ?_ | with_reducible refine below_drewN ?_ _ | exact Below.refl _ _ | assumption | refine Below.drew ?_ | refine below_drewN ?_ _ | refine Below.alloc ?_ (by simp <;> omega) _ | refine Below.setCell ?_ (by simp <;> omega) _))⟩
  · rw [decide_eq_false h43] at hpp
    have hsn : signN h = (bareL h, 1) := by
      unfold signN bareL
      cases h with
      | nil => rfl
      | cons b t =>
        have hb : b ≠ 43 := fun e => h43 (by simp [e])
        simp only [if_neg hb]
        split <;> rfl
    have htr : Lib.trimPrefix h [45] = bareL h := trim_bare h
    have hdl : (bareL h).length ≤ 1048576 := by
      unfold bareL
      split
      · simp
      · split <;> (simp at hhl ⊢; omega)
    rw [hsn]
    have HPP := hide hpp; have HTR := hide htr; clear hpp htr hsn h43
    generalize bareL h = t at *
    have htz : (mkS t).size ≤ 1048576 := by rw [size_mkS]; exact hdl
    have HR := hide (fun W h1 h2 => c_iReadDec (mkS t) W htz h1 h2)
    rw [data_mkS] at HR
    have HMT : Sec ((⟨t.toArray⟩ : ByteArray) = mkS t) := hide rfl
    have HZ : Sec ((mkS h).data.toList = h) := hide hz
    clear hz
    generalize hF : numF t = F at *
    have HF := hide hF; clear hF
    go_enter Tryd.func15, Tryd.ntmps15
    go_wp2_with (first | (go_at_call 25; refine (HC.out _).mono ?_; rintro e w1 ⟨b, rfl, n, rfl⟩) | (go_at_call 26; refine (Tryd.strings_CutPrefix _ _ _).mono ?_; rintro e w2 ⟨rfl, rfl⟩; rw [show (⟨#[43]⟩ : ByteArray).data.toList = [43] from rfl, HZ.out, HPP.out]; generalize Lib.trimPrefix h [43] = tp) | (go_at_call 27; refine (Tryd.strings_TrimPrefix _ _ _).mono ?_; rintro e w2 ⟨rfl, rfl⟩; rw [show (⟨#[45]⟩ : ByteArray).data.toList = [45] from rfl, HZ.out, HTR.out, HMT.out]))
    have hB0 : Below w.heap.size w (((w.alloc (.cells #[.int .i64 0, .int .i64 0, .string ⟨#[]⟩] 35)).alloc (.cells #[.int .i64 1, .int .i64 0, .string ⟨#[]⟩] 35)).drewN n) := (below_drewN (((Below.refl _ _).alloc (Nat.le_refl _) _).alloc (by simp) _) _)
    have hT1 := HT.out.below hB0
    have hE1 := HE.out.below hB0
    refine (HR.out _ hT1 hE1).mono ?_; clear hT1 hE1; rintro e w3 ⟨rfl, hb⟩
    have K1 := ((Bk.born1 w (.cells #[.int .i64 0, .int .i64 0, .string ⟨#[]⟩] 35) 35 #[.int .i64 1, .int .i64 0, .string ⟨#[]⟩]).drewN n).below hb (by simp)
    have K0 := (((Bk.born w 35 #[.int .i64 0, .int .i64 0, .string ⟨#[]⟩]).alloc (.cells #[.int .i64 1, .int .i64 0, .string ⟨#[]⟩] 35)).drewN n).below hb (by simp; try omega)
    have k1 := K1.cell; have f1 := K1.free; have k0 := K0.cell; have f0 := K0.free
    have HB := hide (show Below w.heap.size w w3 from bthen hB0 (by simp; try omega) hb)
    clear hb K1 K0 hB0
    go_wp2
    refine bodyPost_ret (v := .tuple #[.agg #[.int .i64 1, .int .i64 (F.getD 0), .string R], .bool F.isSome]) (by simp [results, Tryd.results15, go_sem, k0, f0, k1, f1]) rfl ?_
    have hB := HB.out
    exact ⟨rfl, (by repeat (first | with_reducible exact Below.refl _ _ | with_reducible assumption | with_reducible refine Below.setCell ?_ (by simp <;> omega) _ | with_reducible refine Below.alloc ?_ (by simp <;> omega) _ | with_reducible refine Below.drew ?_ | with_reducible refine below_drewN ?_ _ | exact Below.refl _ _ | assumption | refine Below.drew ?_ | refine below_drewN ?_ _ | refine Below.alloc ?_ (by simp <;> omega) _ | refine Below.setCell ?_ (by simp <;> omega) _))⟩
end Go.Proofs.YtjbcanihpcfncaaDoor
