/- Contracts: a store whose damaged frames are passed over; both sides. Contracts: a store whose damaged frames are passed over; the other side; DamagedFrames and SalvageSignal of both sides. -/
import Derived.Test.YtpmflkoepnanoaaGreatJa
import Derived.Test.YtpmflkoepnanoaaGreatJe
namespace Go.Proofs.YtpmflkoepnanoaaGreat
section
open Go.RowKit
/-- Two slices in different blocks. -/
def Dj (v1 v2 : Value) : Prop := ∀ b, v1.ownBlock = some b → v2.ownBlock ≠ some b
theorem Dj.symm {v1 v2 : Value} (h : Dj v1 v2) : Dj v2 v1 := fun b h2 h1 => h b h1 h2
theorem OwI.gro {E : TypeId} {w w' : World} {B : Nat} {v v2 : Value} {xs : List Int} (h : OwI E w B v xs) (hg : w.grownBy w' v2.ownBlock) (hd : Dj v v2) : OwI E w' B v xs := by
  refine ⟨h.1, ?_⟩
  rcases h.2 with hn | ⟨b, cap, cur, rfl, hbg, hb, rest⟩
  · exact .inl hn
  · exact .inr ⟨b, cap, cur, rfl, hbg, by rw [hg.block b (Array.getElem?_eq_some_iff.1 hb).1 (by intro e; exact hd b rfl e.symm)]; exact hb, rest⟩
/-- A slice that is grown stays apart from one that lay there. -/
theorem Dj.grown {E : TypeId} {w : World} {B : Nat} {v v2 v2' : Value} {xs : List Int} (h : Dj v v2) (ho : OwI E w B v xs) (hv : ∀ k, v2'.ownBlock = some k → v2.ownBlock = some k ∨ w.heap.size ≤ k) : Dj v v2' := fun b h1 h2 => by
  rcases hv b h2 with h3 | h3
  · exact h b h1 h3
  · have := (ho.lt b h1).2; omega
/-- Two new slices behind a new block. -/
theorem two_new (w : World) (t : TypeId) (cs : Array Value) : ∃ w3, w3 = ((w.alloc (.cells cs t)).alloc (.cells #[] 2)).alloc (.cells #[] 2) ∧
    OwI 2 w3 (w.heap.size + 1) (.slice (some ⟨w.heap.size + 1, 0, none⟩) 0 0) [] ∧ OwI 2 w3 (w.heap.size + 1) (.slice (some ⟨w.heap.size + 2, 0, none⟩) 0 0) [] ∧
    Bk w3 w.heap.size t cs ∧ Below w.heap.size w w3 ∧ w3.heap.size = w.heap.size + 3 := by
  have h1 := new_i64 (w.alloc (.cells cs t))
  have h2 := new_i64 ((w.alloc (.cells cs t)).alloc (.cells #[] 2))
  have hb := (Below.refl ((w.alloc (.cells cs t)).alloc (.cells #[] 2)).heap.size ((w.alloc (.cells cs t)).alloc (.cells #[] 2))).alloc (Nat.le_refl _) (.cells #[] 2)
  have h1' := own_all h1 hb
  have e1 : (w.alloc (.cells cs t)).heap.size = w.heap.size + 1 := by simp
  have e2 : ((w.alloc (.cells cs t)).alloc (.cells #[] 2)).heap.size = w.heap.size + 2 := by simp
  rw [e1] at h1'
  rw [e2] at h2
  exact ⟨_, rfl, h1', h2.more (by omega), ((Bk.born w t cs).alloc _).alloc _, (((Below.refl _ _).alloc (Nat.le_refl _) _).alloc (by simp) _).alloc (by simp; omega) _, by simp⟩
def salF (s : ByteArray) : Nat → Nat → List Int → List Int → List Int × List Int
  | 0, _, out, bad => (out, bad)
  | c + 1, k, out, bad => if (frK s k).2 ≠ 0 then salF s c (k + 1) (out ++ List.replicate (lenK (numS s 6) (numS s 4) k) 0) (bad ++ [(k : Int)]) else salF s c (k + 1) (out ++ (frK s k).1) bad
def salvF (s : ByteArray) : List Int × List Int := salF s (cntF s) 0 [] []
theorem salF_no {s : ByteArray} {c k : Nat} {out bad xs : List Int} {e : Int} (h : frK s k = (xs, e)) (he : e ≠ 0) : salF s (c + 1) k out bad = salF s c (k + 1) (out ++ List.replicate (lenK (numS s 6) (numS s 4) k) 0) (bad ++ [(k : Int)]) := by simp only [salF]; rw [h]; exact if_pos he
theorem salF_go {s : ByteArray} {c k : Nat} {out bad xs : List Int} (h : frK s k = (xs, 0)) : salF s (c + 1) k out bad = salF s c (k + 1) (out ++ xs) bad := by simp only [salF]; rw [h]; exact if_neg (by simp)
def SvR (p : List Int × List Int) (w : World) (e : Ending) (w' : World) : Prop := ∃ v1 v2, e = .returned (.tuple #[v1, v2]) ∧ OwI 2 w' w.heap.size v1 p.1 ∧ OwI 2 w' w.heap.size v2 p.2 ∧ Dj v1 v2 ∧ Below w.heap.size w w'
set_option maxHeartbeats 2000000 in
set_option maxRecDepth 100000 in
theorem c_salvage {s : ByteArray} {t : List Nat} (h : Opn s t) (A : Option Addr) (cap : Nat) (w : World) (hr : RdI w (.slice A (cntF s + 1) cap) (t.map fun (x : Nat) => (x : Int))) :
    Calls Tryz.prog 39 #[stV s (numS s 6) (numS s 4) (.slice A (cntF s + 1) cap)] w (SvR (salvF s) w) := by
  have HR := hide hr; clear hr
  have hf2 := h.f2
  have hcnt := h.cnt
  have HLO := hide (fun (j : Nat) (hj : j < cntF s) w h' => iLoad h hj (.slice A (cntF s + 1) cap) w h')
  have HLE := hide (fun (j : Nat) (hj : j < cntF s) w h' => iLength h hj (.slice A (cntF s + 1) cap) w h')
  have HCO := hide (fun w h' => iCount h (.slice A (cntF s + 1) cap) w h')
  have HRN := hide (show salF s (cntF s) 0 [] [] = salvF s from rfl)
  have HNO := hide (fun c k out bad xs e => salF_no (s := s) (c := c) (k := k) (out := out) (bad := bad) (xs := xs) (e := e))
  have HGO := hide (fun c k out bad xs => salF_go (s := s) (c := c) (k := k) (out := out) (bad := bad) (xs := xs))
  have HBD := hide (frK_bd s)
  have HLK := hide (fun k => show lenK (numS s 6) (numS s 4) k ≤ 256 by unfold lenK; omega)
  have HOO := hide h; clear h
  generalize salvF s = R at *
  generalize numS s 6 = N at *
  generalize numS s 4 = f at *
  generalize cntF s = C at *
  unfold stV
  go_enter Tryz.func39, Tryz.ntmps39
  go_wp2_with fail
  obtain ⟨w3, h3, ho1, ho2, hbk, hb3, hs3⟩ := two_new w 50 #[.string s, .int .i64 (N : Int), .int .i64 (f : Int), .slice A (C + 1) cap]
  rw [← h3]
  clear h3
  have HB3 := hide hb3
  refine (HCO.out _ (HR.out.below HB3.out)).mono ?_; rintro e w0 ⟨rfl, hb0⟩
  have HO1 : Sec (OwI 2 w0 (w.heap.size + 1) (.slice (some ⟨w.heap.size + 1, 0, none⟩) 0 0) []) := hide (own_all ho1 hb0)
  have HO2 : Sec (OwI 2 w0 (w.heap.size + 1) (.slice (some ⟨w.heap.size + 2, 0, none⟩) 0 0) []) := hide (own_all ho2 hb0)
  have HBK := hide (hbk.below hb0 hbk.lt)
  have HB0 := hide (HB3.out.trans (hb0.mono (by omega)))
  have hs0 := hb0.size
  clear ho1 ho2 hbk hb0 hb3
  go_wp2
  go_loopw [4, 5, 13] (fun o d kk wr => ∃ (k : Nat) (out bad : List Int), k ≤ C ∧ kk = .int .i64 k ∧ out.length ≤ 70000 * k ∧ bad.length ≤ k ∧ salF s (C - k) k out bad = R ∧ Bk wr w.heap.size 50 #[.string s, .int .i64 (N : Int), .int .i64 (f : Int), .slice A (C + 1) cap] ∧ OwI 2 wr (w.heap.size + 1) o out ∧ OwI 2 wr (w.heap.size + 1) d bad ∧ Dj o d ∧ Below w.heap.size w wr) (fun _ _ kk _ => C - (intOf kk).toNat)
  case atStart => exact ⟨0, [], [], Nat.zero_le _, rfl, by simp, by simp, HRN.out, HBK.out, HO1.out, HO2.out, fun b h1 h2 => by injection h1 with h1; injection h2 with h2; simp at h1 h2; omega, HB0.out⟩
  case round =>
    obtain ⟨k, out, bad, hkC, rfl, hol, hbl, hrun, hbk, ho, hd, hdj, hb⟩ := hrel
    have hsz := hb.size
    have hwl := hbk.lt
    have c0 := hbk.cell 0; have c1 := hbk.cell 1; have c2 := hbk.cell 2; have c3 := hbk.cell 3
    simp at c0 c1 c2 c3
    have HRUN := hide hrun; have HO := hide ho; have HD := hide hd; have HDJ := hide hdj; have HB := hide hb; have HBK2 := hide hbk; clear hrun ho hd hdj hb hbk
    by_cases hk : k < C
    · go_wp2_with fail
      refine (HLO.out k hk _ (HR.out.below HB.out)).mono ?_; rintro e w1 ⟨v1, rfl, ho1, hb1⟩
      have hbd := HBD.out k
      have hlk := HLK.out k
      have HLEk := hide (fun w h' => HLE.out k hk w h')
      have HNOk := hide (fun out bad xs e => HNO.out (C - (k + 1)) k out bad xs e)
      have HGOk := hide (fun out bad xs => HGO.out (C - (k + 1)) k out bad xs)
      rw [show C - (k + 1) + 1 = C - k by omega] at HNOk HGOk
      generalize frK s k = K at *
      generalize lenK N f k = m at *
      obtain ⟨xs, c⟩ := K
      simp only at ho1 hbd
      obtain ⟨A1, cap1, rfl, _, _, _⟩ := ho1.rd.open_
      have HX1 : Sec (OwI 2 w1 wr.heap.size (.slice A1 xs.length cap1) xs) := hide ho1; have hsz1 := hb1.size
      have HO1' : Sec (OwI 2 w1 (w.heap.size + 1) _ out) := hide (own_all HO.out hb1)
      have HD1 : Sec (OwI 2 w1 (w.heap.size + 1) _ bad) := hide (own_all HD.out hb1)
      have HB1 := hide (bthen HB.out hsz hb1)
      have HBK1 := hide (HBK2.out.below hb1 hwl)
      have hbk1 := HBK1.out
      have d0 := hbk1.cell 0; have d1 := hbk1.cell 1; have d2 := hbk1.cell 2; have d3 := hbk1.cell 3
      simp at d0 d1 d2 d3
      have hbs : w.heap.size + 1 ≤ w1.heap.size := by omega
      clear ho1 hb1 hbk1 c0 c1 c2 c3
      by_cases hc : c = 0
      · subst hc
        have HGG := hide (HGOk.out out bad xs rfl)
        have hal : out.length + xs.length ≤ 17592186044416 := by omega
        go_wp2_with (at_builtin; refine appm_i64 rfl _ _ rfl rfl HO1'.out rfl HX1.out.rd hal hbs ?_; intro v5 w5 ho5 hg5 hv5; have hb5 := below_own HB1.out HO1'.out hg5 (by omega) (by omega); have HO5 := hide ho5; have HB5 := hide hb5; have HD5 := hide (HD1.out.gro hg5 HDJ.out.symm); have HDJ5 := hide ((HDJ.out.symm.grown HD1.out hv5).symm); have HBK5 := hide (HBK1.out.grown hg5 (fun e => by have h1 := (HO1'.out.lt _ e.symm).1; omega)); clear ho5 hb5 hg5 hv5)
        go_roundw
        case rel => exact ⟨k + 1, out ++ xs, bad, by omega, by go_num, by rw [List.length_append]; omega, by omega, by rw [← HGG.out]; exact HRUN.out, HBK5.out, HO5.out, HD5.out, HDJ5.out, HB5.out⟩
        case measure => first | (simp [intOf]; done) | (simp [intOf]; omega)
      · have HE := hide (HNOk.out out bad xs c rfl hc)
        have ht : (c != 0) = true := by simpa using hc
        clear hc
        have hal1 : bad.length + 1 ≤ 17592186044416 := by omega
        have hal2 : out.length + (List.replicate m (0 : Int)).length ≤ 17592186044416 := by rw [List.length_replicate]; omega
        go_wp2_with fail
        refine (HLEk.out _ (HR.out.below HB1.out)).mono ?_; rintro e w2 ⟨rfl, hb2⟩
        have HB2 := hide (bthen HB1.out (by omega) hb2)
        have HO2' : Sec (OwI 2 w2 (w.heap.size + 1) _ out) := hide (own_all HO1'.out hb2)
        have HD2 : Sec (OwI 2 w2 (w.heap.size + 1) _ bad) := hide (own_all HD1.out hb2)
        have HBK2' := hide (HBK1.out.below hb2 (by omega))
        have hs2 := hb2.size
        clear hb2
        go_wp2_with fail
        refine (c_zeros m _ (by omega)).mono ?_; rintro e w4 ⟨rfl, hz4, hb4⟩
        have HZ4 := hide hz4
        have HZD := hide (show Dj (.slice (some ⟨w2.heap.size, 0, none⟩) m m) _ from fun b h1 h2 => by injection h1 with h1; have := (HD2.out.lt b h2).2; simp at h1; omega)
        have HB4 := hide (bthen HB2.out (by omega) hb4)
        have HO4 : Sec (OwI 2 w4 (w.heap.size + 1) _ out) := hide (own_all HO2'.out hb4)
        have HD4 : Sec (OwI 2 w4 (w.heap.size + 1) _ bad) := hide (own_all HD2.out hb4)
        have HBK4 := hide (HBK2'.out.below hb4 (by omega))
        have hs4 := hb4.size
        have hbs4 : w.heap.size + 1 ≤ w4.heap.size := by omega
        clear hb4 hz4
        go_wp2_with (first | (at_builtin; refine app1_i64 rfl _ _ rfl rfl HD4.out rfl hal1 hbs4 ?_; intro v5 w5 hd5 hg5 hv5; have hb5 := below_own HB4.out HD4.out hg5 (by omega) (by omega); have HD5 := hide hd5; have HB5 := hide hb5; have HO5 := hide (HO4.out.gro hg5 HDJ.out); have HZ5 := hide (HZ4.out.gro hg5 HZD.out); have HDJ5 := hide (HDJ.out.grown HO4.out hv5); have HBK5 := hide (HBK4.out.grown hg5 (fun e => by have h1 := (HD4.out.lt _ e.symm).1; omega)); have hs5 := hg5.size; have hbs5 : w.heap.size + 1 ≤ w5.heap.size := (by omega); clear hb5 hd5 hg5 hv5) | (at_builtin; refine appm_i64 rfl _ _ rfl rfl HO5.out rfl HZ5.out.rd hal2 hbs5 ?_; intro v6 w6 ho6 hg6 hv6; have hb6 := below_own HB5.out HO5.out hg6 (by omega) (by omega); have HO6 := hide ho6; have HB6 := hide hb6; have HD6 := hide (HD5.out.gro hg6 HDJ5.out.symm); have HDJ6 := hide ((HDJ5.out.symm.grown HD5.out hv6).symm); have HBK6 := hide (HBK5.out.grown hg6 (fun e => by have h1 := (HO5.out.lt _ e.symm).1; omega)); clear hb6 ho6 hg6 hv6))
        go_roundw
        case rel => exact ⟨k + 1, out ++ List.replicate m 0, bad ++ [(k : Int)], by omega, by go_num, by rw [List.length_append, List.length_replicate]; omega, by rw [List.length_append]; simp; omega, by rw [← HE.out]; exact HRUN.out, HBK6.out, HO6.out, HD6.out, HDJ6.out, HB6.out⟩
        case measure => first | (simp [intOf]; done) | (simp [intOf]; omega)
    · obtain rfl : k = C := by omega
      go_wp2
      go_ret2
      exact ⟨_, _, rfl, by rw [← HRUN.out, Nat.sub_self]; exact HO.out.more (by omega), by rw [← HRUN.out, Nat.sub_self]; exact HD.out.more (by omega), HDJ.out, HB.out⟩
end
open Go.RowKit
/-- Two new slices. -/
theorem two_new0 (w : World) : OwI 2 ((w.alloc (.cells #[] 2)).alloc (.cells #[] 2)) w.heap.size (.slice (some ⟨w.heap.size, 0, none⟩) 0 0) [] ∧ OwI 2 ((w.alloc (.cells #[] 2)).alloc (.cells #[] 2)) w.heap.size (.slice (some ⟨w.heap.size + 1, 0, none⟩) 0 0) [] ∧
    Below w.heap.size w ((w.alloc (.cells #[] 2)).alloc (.cells #[] 2)) := by
  have h1 := new_i64 w
  have h2 := new_i64 (w.alloc (.cells #[] 2))
  have h1' := own_all h1 ((Below.refl _ _).alloc (Nat.le_refl _) (.cells #[] 2))
  have e1 : (w.alloc (.cells #[] 2)).heap.size = w.heap.size + 1 := by simp
  rw [e1] at h2
  exact ⟨h1', h2.more (by omega), ((Below.refl _ _).alloc (Nat.le_refl _) _).alloc (by simp) _⟩
def dmgF (s : ByteArray) : List Int × Int := if (placesF s).2 ≠ 0 then ([], (placesF s).2) else ((salvF s).2, 0)
theorem dmg1 {s : ByteArray} {ps : List Int} {c : Int} (h : placesF s = (ps, c)) (hc : c ≠ 0) : dmgF s = ([], c) := by unfold dmgF; rw [h]; exact if_pos hc
theorem dmg2 {s : ByteArray} {ps : List Int} (h : placesF s = (ps, 0)) : dmgF s = ((salvF s).2, 0) := by unfold dmgF; rw [h]; simp
def slvF (s : ByteArray) : (List Int × List Int) × Int := if (placesF s).2 ≠ 0 then (([], []), (placesF s).2) else (salvF s, 0)
theorem slv1 {s : ByteArray} {ps : List Int} {c : Int} (h : placesF s = (ps, c)) (hc : c ≠ 0) : slvF s = (([], []), c) := by unfold slvF; rw [h]; exact if_pos hc
theorem slv2 {s : ByteArray} {ps : List Int} (h : placesF s = (ps, 0)) : slvF s = (salvF s, 0) := by unfold slvF; rw [h]; simp
def Sl3 (p : (List Int × List Int) × Int) (w : World) (e : Ending) (w' : World) : Prop := ∃ v1 v2, e = .returned (.tuple #[v1, v2, .int .i64 p.2]) ∧ OwI 2 w' w.heap.size v1 p.1.1 ∧ OwI 2 w' w.heap.size v2 p.1.2 ∧ Dj v1 v2 ∧ Below w.heap.size w w'
theorem Sl3.mkE {p : (List Int × List Int) × Int} {w w' : World} {c : Int} (h : p = (([], []), c)) (hb : Below w.heap.size w w') : Sl3 p w (.returned (.tuple #[.slice none 0 0, .slice none 0 0, .int .i64 c])) w' := ⟨_, _, by rw [h], by rw [h]; exact OwI.nil_ _ _ _, by rw [h]; exact OwI.nil_ _ _ _, fun b h1 => by simp [Value.ownBlock] at h1, hb⟩
theorem Sl3.mk {p : (List Int × List Int) × Int} {w w' : World} {v1 v2 : Value} {q : List Int × List Int} {c : Int} (h : p = (q, c)) (h1 : OwI 2 w' w.heap.size v1 q.1) (h2 : OwI 2 w' w.heap.size v2 q.2) (hd : Dj v1 v2) (hb : Below w.heap.size w w') : Sl3 p w (.returned (.tuple #[v1, v2, .int .i64 c])) w' := ⟨_, _, by rw [h], by rw [h]; exact h1, by rw [h]; exact h2, hd, hb⟩
set_option maxHeartbeats 1000000 in
set_option maxRecDepth 100000 in
theorem c_iDamagedFrames (s : ByteArray) (w : World) (hs : s.size ≤ 1048576) : Calls Tryz.prog 16 #[.string s] w (SlR (dmgF s) w) := by
  obtain ⟨ps, c, hp⟩ : ∃ ps c, placesF s = (ps, c) := ⟨_, _, rfl⟩
  by_cases hc : c = 0
  · subst hc
    obtain ⟨t, rfl, HO⟩ := opn_of hp hs
    have HPL := hide (fun w => open_ok hp w (by omega))
    have hlen : (t.map (fun (n : Nat) => (n : Int))).length = cntF s + 1 := by rw [List.length_map]; exact HO.len
    have HLO := hide (fun A cap w h => c_salvage HO A cap w h)
    have HE := hide (dmg2 hp)
    clear HO hp
    generalize dmgF s = L at *
    generalize salvF s = K at *
    generalize cntF s = C at *
    generalize numS s 6 = n at *
    generalize numS s 4 = f at *
    go_enter Tryz.func16, Tryz.ntmps16
    go_wp2_with fail
    refine (HPL.out _).mono ?_; rintro e w1 ⟨A, cap, rfl, ho1, hb1⟩
    have HB1 := hide hb1; have HO1 := hide ho1; have hsz1 := hb1.size; clear hb1 ho1
    rw [hlen] at HO1 ⊢
    have hal := (Below.refl w1.heap.size w1).alloc (Nat.le_refl _) (.cells #[.string s, .int .i64 (n : Int), .int .i64 (f : Int), .slice A (C + 1) cap] 50)
    have HAL := hide hal; clear hal
    go_wp2_with fail
    refine (HLO.out _ _ _ (HO1.out.rd.below HAL.out)).mono ?_; rintro e w2 ⟨v2, v3, rfl, _, ho2, _, hb2⟩
    have HB2 := hide (HB1.out.trans ((HAL.out.trans (hb2.mono HAL.out.size)).mono hsz1)); have HO2 := hide (ho2.more (Nat.le_trans hsz1 HAL.out.size)); clear ho2 hb2
    go_wp2
    go_ret2
    rw [HE.out]
    exact SlR.mk rfl HO2.out HB2.out
  · have HE := hide (dmg1 hp hc)
    have HPL := hide (fun w => open_err hp hc w (by omega))
    have ht : (c != 0) = true := by simpa using hc
    clear hp hc
    go_enter Tryz.func16, Tryz.ntmps16
    go_wp2_with fail
    refine (HPL.out _).mono ?_; rintro e w1 ⟨t, n, f, A, l, cap, rfl, hb1⟩
    have HB1 := hide hb1; have hsz1 := hb1.size; clear hb1
    go_wp2
    go_ret2
    exact SlR.mkE HE.out (HB1.out.alloc hsz1 _)
end Go.Proofs.YtpmflkoepnanoaaGreat
