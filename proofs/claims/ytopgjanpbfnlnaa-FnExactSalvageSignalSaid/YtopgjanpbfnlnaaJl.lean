/- Contracts: a store whose damaged frames are passed over; the other side; DamagedFrames and SalvageSignal of both sides. -/
import Derived.Test.YtopgjanpbfnlnaaJk
namespace Go.Proofs.Ytopgjanpbfnlnaa
open Go.RowKit
/-- Two new slices. -/
theorem two_new0 (w : World) : OwI 2 ((w.alloc (.cells #[] 2)).alloc (.cells #[] 2)) w.heap.size (.slice (some ⟨w.heap.size, 0, none⟩) 0 0) [] ∧ OwI 2 ((w.alloc (.cells #[] 2)).alloc (.cells #[] 2)) w.heap.size (.slice (some ⟨w.heap.size + 1, 0, none⟩) 0 0) [] ∧
    Below w.heap.size w ((w.alloc (.cells #[] 2)).alloc (.cells #[] 2)) := by
  have h1 := new_i64 w
  have h2 := new_i64 (w.alloc (.cells #[] 2))
  have h1' := own_all h1 ((Below.refl _ _).alloc (Nat.le_refl _) (.cells #[] 2))
  have e1 : (w.alloc (.cells #[] 2)).heap.size = w.heap.size + 1 := by simp
  rw [e1] at h2
  exact ⟨h1', h2.more (by omega), ((Below.refl _ _).alloc (Nat.le_refl _) _).alloc (by simp) _⟩
set_option maxHeartbeats 2000000 in
set_option maxRecDepth 100000 in
theorem c_l30Salvage {s : ByteArray} {t : List Nat} (h : Opn s t) (A : Option Addr) (cap : Nat) (w : World) (hr : RdI w (.slice A (cntF s + 1) cap) (t.map fun (x : Nat) => (x : Int))) :
    Calls Try.prog 101 #[.string s, .slice A (cntF s + 1) cap, .int .i64 (numS s 6 : Nat), .int .i64 (numS s 4 : Nat)] w (SvR (salvF s) w) := by
  have HR := hide hr; clear hr
  have hf1 := h.f1; have hf2 := h.f2; have hn4 := h.n4
  have hcnt := h.cnt
  have HLO := hide (fun (j : Nat) (hj : j < cntF s) w h' => sLoad h hj (.slice A (cntF s + 1) cap) w h')
  have HRN := hide (show salF s (cntF s) 0 [] [] = salvF s from rfl)
  have HNO := hide (fun c k out bad xs e => salF_no (s := s) (c := c) (k := k) (out := out) (bad := bad) (xs := xs) (e := e))
  have HGO := hide (fun c k out bad xs => salF_go (s := s) (c := c) (k := k) (out := out) (bad := bad) (xs := xs))
  have HBD := hide (frK_bd s)
  have HLK := hide (fun k => show lenK (numS s 6) (numS s 4) k = min (numS s 4) (numS s 6 - k * numS s 4) from rfl)
  have HKN := hide (fun k (hk : k < cntF s) => (h.lt hk).2)
  have HOO := hide h; clear h
  generalize salvF s = R at *
  generalize numS s 6 = N at *
  generalize numS s 4 = f at *
  generalize cntF s = C at *
  go_enter Try.func101, Try.ntmps101
  have HT1 := hide (two_new0 w).1; have HT2 := hide (two_new0 w).2.1; have HT3 := hide (two_new0 w).2.2
  go_wp2
  go_loopw [10, 11, 12] (fun o d kk wr => ∃ (k : Nat) (out bad : List Int), k ≤ C ∧ kk = .int .i64 k ∧ out.length ≤ 70000 * k ∧ bad.length ≤ k ∧ salF s (C - k) k out bad = R ∧ OwI 2 wr w.heap.size o out ∧ OwI 2 wr w.heap.size d bad ∧ Dj o d ∧ Below w.heap.size w wr) (fun _ _ kk _ => C - (intOf kk).toNat)
  case atStart => exact ⟨0, [], [], Nat.zero_le _, rfl, by simp, by simp, HRN.out, HT1.out, HT2.out, fun b h1 h2 => by injection h1 with h1; injection h2 with h2; simp at h1 h2; omega, HT3.out⟩
  case round =>
    obtain ⟨k, out, bad, hkC, rfl, hol, hbl, hrun, ho, hd, hdj, hb⟩ := hrel
    have hsz := hb.size
    have HRUN := hide hrun; have HO := hide ho; have HD := hide hd; have HDJ := hide hdj; have HB := hide hb; clear hrun ho hd hdj hb
    by_cases hk : k < C
    · have hkt : (k : Int) + 1 < (C : Int) + 1 := by omega
      go_wp2_with fail
      refine (HLO.out k hk _ (HR.out.below HB.out)).mono ?_; rintro e w1 ⟨v1, rfl, ho1, hb1⟩
      have hbd := HBD.out k
      have hlk := HLK.out k
      have hkn := HKN.out k hk
      have HNOk := hide (fun out bad xs e => HNO.out (C - (k + 1)) k out bad xs e)
      have HGOk := hide (fun out bad xs => HGO.out (C - (k + 1)) k out bad xs)
      rw [show C - (k + 1) + 1 = C - k by omega] at HNOk HGOk
      generalize frK s k = K at *
      generalize hm : lenK N f k = m at *
      clear hm
      obtain ⟨q, hq⟩ : ∃ q, k * f = q := ⟨_, rfl⟩
      have e1 : (k : Int) * (f : Int) = (q : Int) := by rw [← hq]; simp
      rw [hq] at hlk hkn
      have HMN := hide (show (if (f : Int) < (N : Int) - (q : Int) then (f : Int) else (N : Int) - (q : Int)) = (m : Int) by split <;> omega)
      have hm256 : m ≤ 256 := by omega
      clear hq hlk
      obtain ⟨xs, c⟩ := K
      simp only at ho1 hbd
      obtain ⟨A1, cap1, rfl, _, _, _⟩ := ho1.rd.open_
      have HX1 : Sec (OwI 2 w1 wr.heap.size (.slice A1 xs.length cap1) xs) := hide ho1; have hsz1 := hb1.size
      have HO1' : Sec (OwI 2 w1 w.heap.size _ out) := hide (own_all HO.out hb1)
      have HD1 : Sec (OwI 2 w1 w.heap.size _ bad) := hide (own_all HD.out hb1)
      have HB1 := hide (bthen HB.out hsz hb1)
      have hbs : w.heap.size ≤ w1.heap.size := by omega
      clear ho1 hb1
      by_cases hc : c = 0
      · subst hc
        have HGG := hide (HGOk.out out bad xs rfl)
        have hal : out.length + xs.length ≤ 17592186044416 := by omega
        go_wp2_with (at_builtin; refine appm_i64 rfl _ _ rfl rfl HO1'.out rfl HX1.out.rd hal hbs ?_; intro v5 w5 ho5 hg5 hv5; have hb5 := below_own HB1.out HO1'.out hg5 (by omega) (by omega); have HO5 := hide ho5; have HB5 := hide hb5; have HD5 := hide (HD1.out.gro hg5 HDJ.out.symm); have HDJ5 := hide ((HDJ.out.symm.grown HD1.out hv5).symm); clear ho5 hb5 hg5 hv5)
        go_roundw
        case rel => exact ⟨k + 1, out ++ xs, bad, by omega, by go_num, by rw [List.length_append]; omega, by omega, by rw [← HGG.out]; exact HRUN.out, HO5.out, HD5.out, HDJ5.out, HB5.out⟩
        case measure => first | (simp [intOf]; done) | (simp [intOf]; omega)
      · have HE := hide (HNOk.out out bad xs c rfl hc)
        have ht : (c != 0) = true := by simpa using hc
        clear hc
        have hal1 : bad.length + 1 ≤ 17592186044416 := by omega
        have hal2 : out.length + (List.replicate m (0 : Int)).length ≤ 17592186044416 := by rw [List.length_replicate]; omega
        go_wp2_with (at_builtin; refine app1_i64 rfl _ _ rfl rfl HD1.out rfl hal1 hbs ?_; intro v5 w5 hd5 hg5 hv5; have hb5 := below_own HB1.out HD1.out hg5 (by omega) (by omega); have HD5 := hide hd5; have HB5 := hide hb5; have HO5 := hide (HO1'.out.gro hg5 HDJ.out); have HDJ5 := hide (HDJ.out.grown HO1'.out hv5); have hs5 := hg5.size; have hbs5 : w.heap.size ≤ w5.heap.size := (by omega); clear hb5 hd5 hg5 hv5)
        refine (c_l00Min _ _ _).mono ?_; rw [HMN.out]; rintro e w' ⟨rfl, rfl⟩
        go_wp2_with fail
        refine (c_l03Zeros m _ (by omega)).mono ?_; rintro e w4 ⟨v4, rfl, hz4, hb4⟩
        have HZ4 := hide hz4
        have HB4 := hide (bthen HB5.out hbs5 hb4)
        have HO4 : Sec (OwI 2 w4 w.heap.size _ out) := hide (own_all HO5.out hb4)
        have HD4 : Sec (OwI 2 w4 w.heap.size _ (bad ++ [(k : Int)])) := hide (own_all HD5.out hb4)
        have hs4 := hb4.size
        have hbs4 : w.heap.size ≤ w4.heap.size := by omega
        clear hb4 hz4
        go_wp2_with (at_builtin; refine appm_i64 rfl _ _ rfl rfl HO4.out rfl HZ4.out.rd hal2 hbs4 ?_; intro v6 w6 ho6 hg6 hv6; have hb6 := below_own HB4.out HO4.out hg6 (by omega) (by omega); have HO6 := hide ho6; have HB6 := hide hb6; have HD6 := hide (HD4.out.gro hg6 HDJ5.out.symm); have HDJ6 := hide ((HDJ5.out.symm.grown HD4.out hv6).symm); clear hb6 ho6 hg6 hv6)
        go_roundw
        case rel => exact ⟨k + 1, out ++ List.replicate m 0, bad ++ [(k : Int)], by omega, by go_num, by rw [List.length_append, List.length_replicate]; omega, by rw [List.length_append]; simp; omega, by rw [← HE.out]; exact HRUN.out, HO6.out, HD6.out, HDJ6.out, HB6.out⟩
        case measure => first | (simp [intOf]; done) | (simp [intOf]; omega)
    · obtain rfl : k = C := by omega
      go_wp2
      go_ret2
      exact ⟨_, _, rfl, by rw [← HRUN.out, Nat.sub_self]; exact HO.out, by rw [← HRUN.out, Nat.sub_self]; exact HD.out, HDJ.out, HB.out⟩
def dmgF (s : ByteArray) : List Int × Int := if (placesF s).2 ≠ 0 then ([], (placesF s).2) else ((salvF s).2, 0)
theorem dmg1 {s : ByteArray} {ps : List Int} {c : Int} (h : placesF s = (ps, c)) (hc : c ≠ 0) : dmgF s = ([], c) := by unfold dmgF; rw [h]; exact if_pos hc
theorem dmg2 {s : ByteArray} {ps : List Int} (h : placesF s = (ps, 0)) : dmgF s = ((salvF s).2, 0) := by unfold dmgF; rw [h]; simp
def slvF (s : ByteArray) : (List Int × List Int) × Int := if (placesF s).2 ≠ 0 then (([], []), (placesF s).2) else (salvF s, 0)
theorem slv1 {s : ByteArray} {ps : List Int} {c : Int} (h : placesF s = (ps, c)) (hc : c ≠ 0) : slvF s = (([], []), c) := by unfold slvF; rw [h]; exact if_pos hc
theorem slv2 {s : ByteArray} {ps : List Int} (h : placesF s = (ps, 0)) : slvF s = (salvF s, 0) := by unfold slvF; rw [h]; simp
def Sl3 (p : (List Int × List Int) × Int) (w : World) (e : Ending) (w' : World) : Prop := ∃ v1 v2, e = .returned (.tuple #[v1, v2, .int .i64 p.2]) ∧ OwI 2 w' w.heap.size v1 p.1.1 ∧ OwI 2 w' w.heap.size v2 p.1.2 ∧ Dj v1 v2 ∧ Below w.heap.size w w'
theorem Sl3.mkE {p : (List Int × List Int) × Int} {w w' : World} {c : Int} (h : p = (([], []), c)) (hb : Below w.heap.size w w') : Sl3 p w (.returned (.tuple #[.slice none 0 0, .slice none 0 0, .int .i64 c])) w' := ⟨_, _, by rw [h], by rw [h]; exact OwI.nil_ _ _ _, by rw [h]; exact OwI.nil_ _ _ _, fun b h1 => by simp [Value.ownBlock] at h1, hb⟩
theorem Sl3.mk {p : (List Int × List Int) × Int} {w w' : World} {v1 v2 : Value} {q : List Int × List Int} {c : Int} (h : p = (q, c)) (h1 : OwI 2 w' w.heap.size v1 q.1) (h2 : OwI 2 w' w.heap.size v2 q.2) (hd : Dj v1 v2) (hb : Below w.heap.size w w') : Sl3 p w (.returned (.tuple #[v1, v2, .int .i64 c])) w' := ⟨_, _, by rw [h], by rw [h]; exact h1, by rw [h]; exact h2, hd, hb⟩
set_option maxHeartbeats 1000000 in
set_option maxRecDepth 100000 in
theorem c_sDamagedFrames (s : ByteArray) (w : World) (hs : s.size ≤ 1048576) : Calls Try.prog 51 #[.string s] w (SlR (dmgF s) w) := by
  obtain ⟨ps, c, hp⟩ : ∃ ps c, placesF s = (ps, c) := ⟨_, _, rfl⟩
  by_cases hc : c = 0
  · subst hc
    obtain ⟨t, rfl, HO⟩ := opn_of hp hs
    have HPL := hide (fun w => places_ok hp w (by omega))
    have HLO := hide (fun A cap w h => c_l30Salvage HO A cap w h)
    have hlen : (t.map (fun (n : Nat) => (n : Int))).length = cntF s + 1 := by rw [List.length_map]; exact HO.len
    have HE := hide (dmg2 hp)
    clear HO hp
    generalize dmgF s = L at *
    generalize salvF s = K at *
    generalize cntF s = C at *
    generalize numS s 6 = n at *
    generalize numS s 4 = f at *
    go_enter Try.func51, Try.ntmps51
    go_wp2_with fail
    refine (HPL.out _).mono ?_; rintro e w1 ⟨v1, rfl, ho1, hb1⟩
    obtain ⟨A, cap, rfl, _, _, _⟩ := ho1.rd.open_
    rw [hlen] at ho1 ⊢
    have HB1 := hide hb1; have HO1 := hide ho1; clear hb1 ho1
    go_wp2_with fail
    refine (HLO.out _ _ _ HO1.out.rd).mono ?_; rintro e w2 ⟨v2, v3, rfl, _, ho2, _, hb2⟩
    have HB2 := hide (bthen HB1.out HB1.out.size hb2); have HO2 := hide (ho2.more HB1.out.size); clear ho2 hb2
    go_wp2
    go_ret2
    rw [HE.out]
    exact SlR.mk rfl HO2.out HB2.out
  · have HE := hide (dmg1 hp hc)
    have HPL := hide (fun w => places_err hp hc w (by omega))
    have ht : (c != 0) = true := by simpa using hc
    clear hp hc
    go_enter Try.func51, Try.ntmps51
    go_wp2_with fail
    refine (HPL.out _).mono ?_; rintro e w1 ⟨v1, rfl, hb1⟩
    have HB1 := hide hb1; clear hb1
    go_wp2
    go_ret2
    exact SlR.mkE HE.out HB1.out
set_option maxHeartbeats 1000000 in
set_option maxRecDepth 100000 in
theorem c_sSalvageSignal (s : ByteArray) (w : World) (hs : s.size ≤ 1048576) : Calls Try.prog 53 #[.string s] w (Sl3 (slvF s) w) := by
  obtain ⟨ps, c, hp⟩ : ∃ ps c, placesF s = (ps, c) := ⟨_, _, rfl⟩
  by_cases hc : c = 0
  · subst hc
    obtain ⟨t, rfl, HO⟩ := opn_of hp hs
    have HPL := hide (fun w => places_ok hp w (by omega))
    have HLO := hide (fun A cap w h => c_l30Salvage HO A cap w h)
    have hlen : (t.map (fun (n : Nat) => (n : Int))).length = cntF s + 1 := by rw [List.length_map]; exact HO.len
    have HE := hide (slv2 hp)
    clear HO hp
    generalize slvF s = L at *
    generalize salvF s = K at *
    generalize cntF s = C at *
    generalize numS s 6 = n at *
    generalize numS s 4 = f at *
    go_enter Try.func53, Try.ntmps53
    go_wp2_with fail
    refine (HPL.out _).mono ?_; rintro e w1 ⟨v1, rfl, ho1, hb1⟩
    obtain ⟨A, cap, rfl, _, _, _⟩ := ho1.rd.open_
    rw [hlen] at ho1 ⊢
    have HB1 := hide hb1; have HO1 := hide ho1; clear hb1 ho1
    go_wp2_with fail
    refine (HLO.out _ _ _ HO1.out.rd).mono ?_; rintro e w2 ⟨v2, v3, rfl, ho2, ho3, hdj, hb2⟩
    have HB2 := hide (bthen HB1.out HB1.out.size hb2); have HO2 := hide (ho2.more HB1.out.size); have HO3 := hide (ho3.more HB1.out.size); have HDJ := hide hdj; clear ho2 ho3 hdj hb2
    go_wp2
    refine bodyPost_ret (results_tmp3 rfl _ _ _) rfl ?_
    rw [HE.out]
    exact Sl3.mk rfl HO2.out HO3.out HDJ.out HB2.out
  · have HE := hide (slv1 hp hc)
    have HPL := hide (fun w => places_err hp hc w (by omega))
    have ht : (c != 0) = true := by simpa using hc
    clear hp hc
    go_enter Try.func53, Try.ntmps53
    go_wp2_with fail
    refine (HPL.out _).mono ?_; rintro e w1 ⟨v1, rfl, hb1⟩
    have HB1 := hide hb1; clear hb1
    go_wp2
    refine bodyPost_ret (results_tmp3 rfl _ _ _) rfl ?_
    exact Sl3.mkE HE.out HB1.out
set_option maxHeartbeats 1000000 in
set_option maxRecDepth 100000 in
theorem c_iDamagedFrames (s : ByteArray) (w : World) (hs : s.size ≤ 1048576) : Calls Try.prog 52 #[.string s] w (SlR (dmgF s) w) := by
  obtain ⟨ps, c, hp⟩ : ∃ ps c, placesF s = (ps, c) := ⟨_, _, rfl⟩
  by_cases hc : c = 0
  · subst hc
    obtain ⟨t, rfl, HO⟩ := opn_of hp hs
    have HPL := hide (fun w => open_ok hp w (by omega))
    have hlen : (t.map (fun (n : Nat) => (n : Int))).length = cntF s + 1 := by rw [List.length_map]; exact HO.len
    have HLO := hide (fun A cap w h => c_salvage HO A cap w h)
    have HE := hide (dmg2 hp)
    clear HO hp
    generalize dmgF s = L at *
    generalize salvF s = K at *
    generalize cntF s = C at *
    generalize numS s 6 = n at *
    generalize numS s 4 = f at *
    go_enter Try.func52, Try.ntmps52
    go_wp2_with fail
    refine (HPL.out _).mono ?_; rintro e w1 ⟨A, cap, rfl, ho1, hb1⟩
    have HB1 := hide hb1; have HO1 := hide ho1; have hsz1 := hb1.size; clear hb1 ho1
    rw [hlen] at HO1 ⊢
    have hal := (Below.refl w1.heap.size w1).alloc (Nat.le_refl _) (.cells #[.string s, .int .i64 (n : Int), .int .i64 (f : Int), .slice A (C + 1) cap] 60)
    have HAL := hide hal; clear hal
    go_wp2_with fail
    refine (HLO.out _ _ _ (HO1.out.rd.below HAL.out)).mono ?_; rintro e w2 ⟨v2, v3, rfl, _, ho2, _, hb2⟩
    have HB2 := hide (HB1.out.trans ((HAL.out.trans (hb2.mono HAL.out.size)).mono hsz1)); have HO2 := hide (ho2.more (Nat.le_trans hsz1 HAL.out.size)); clear ho2 hb2
    go_wp2
    go_ret2
    rw [HE.out]
    exact SlR.mk rfl HO2.out HB2.out
  · have HE := hide (dmg1 hp hc)
    have HPL := hide (fun w => open_err hp hc w (by omega))
    have ht : (c != 0) = true := by simpa using hc
    clear hp hc
    go_enter Try.func52, Try.ntmps52
    go_wp2_with fail
    refine (HPL.out _).mono ?_; rintro e w1 ⟨t, n, f, A, l, cap, rfl, hb1⟩
    have HB1 := hide hb1; have hsz1 := hb1.size; clear hb1
    go_wp2
    go_ret2
    exact SlR.mkE HE.out (HB1.out.alloc hsz1 _)
set_option maxHeartbeats 1000000 in
set_option maxRecDepth 100000 in
theorem c_iSalvageSignal (s : ByteArray) (w : World) (hs : s.size ≤ 1048576) : Calls Try.prog 54 #[.string s] w (Sl3 (slvF s) w) := by
  obtain ⟨ps, c, hp⟩ : ∃ ps c, placesF s = (ps, c) := ⟨_, _, rfl⟩
  by_cases hc : c = 0
  · subst hc
    obtain ⟨t, rfl, HO⟩ := opn_of hp hs
    have HPL := hide (fun w => open_ok hp w (by omega))
    have hlen : (t.map (fun (n : Nat) => (n : Int))).length = cntF s + 1 := by rw [List.length_map]; exact HO.len
    have HLO := hide (fun A cap w h => c_salvage HO A cap w h)
    have HE := hide (slv2 hp)
    clear HO hp
    generalize slvF s = L at *
    generalize salvF s = K at *
    generalize cntF s = C at *
    generalize numS s 6 = n at *
    generalize numS s 4 = f at *
    go_enter Try.func54, Try.ntmps54
    go_wp2_with fail
    refine (HPL.out _).mono ?_; rintro e w1 ⟨A, cap, rfl, ho1, hb1⟩
    have HB1 := hide hb1; have HO1 := hide ho1; have hsz1 := hb1.size; clear hb1 ho1
    rw [hlen] at HO1 ⊢
    have hal := (Below.refl w1.heap.size w1).alloc (Nat.le_refl _) (.cells #[.string s, .int .i64 (n : Int), .int .i64 (f : Int), .slice A (C + 1) cap] 60)
    have HAL := hide hal; clear hal
    go_wp2_with fail
    refine (HLO.out _ _ _ (HO1.out.rd.below HAL.out)).mono ?_; rintro e w2 ⟨v2, v3, rfl, ho2, ho3, hdj, hb2⟩
    have HB2 := hide (HB1.out.trans ((HAL.out.trans (hb2.mono HAL.out.size)).mono hsz1)); have HO2 := hide (ho2.more (Nat.le_trans hsz1 HAL.out.size)); have HO3 := hide (ho3.more (Nat.le_trans hsz1 HAL.out.size)); have HDJ := hide hdj; clear ho2 ho3 hdj hb2
    go_wp2
    refine bodyPost_ret (results_tmp3 rfl _ _ _) rfl ?_
    rw [HE.out]
    exact Sl3.mk rfl HO2.out HO3.out HDJ.out HB2.out
  · have HE := hide (slv1 hp hc)
    have HPL := hide (fun w => open_err hp hc w (by omega))
    have ht : (c != 0) = true := by simpa using hc
    clear hp hc
    go_enter Try.func54, Try.ntmps54
    go_wp2_with fail
    refine (HPL.out _).mono ?_; rintro e w1 ⟨t, n, f, A, l, cap, rfl, hb1⟩
    have HB1 := hide hb1; have hsz1 := hb1.size; clear hb1
    go_wp2
    refine bodyPost_ret (results_tmp3 rfl _ _ _) rfl ?_
    exact Sl3.mkE HE.out (HB1.out.alloc hsz1 _)
end Go.Proofs.Ytopgjanpbfnlnaa
