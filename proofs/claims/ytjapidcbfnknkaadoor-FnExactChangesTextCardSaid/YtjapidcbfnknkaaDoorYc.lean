/- ChangesText: both sides, the law. -/
import Derived.Test.YtjapidcbfnknkaaDoorYb
import Derived.Test.YtjapidcbfnknkaaDoorXf
namespace Go.Proofs.YtjapidcbfnknkaaDoor
open Go.RowKit
def ctF (cs : List Chg) : ByteArray := if chgS cs then mkS (txtCs cs) else mkS []
theorem c_iCT (v : Value) (cs : List Chg) (w : World) (hr : RdC w v cs) (ht : TB w) (hz : ∀ c ∈ cs, c.t.size ≤ 1048576) :
    Calls Tryd.prog 35 #[v] w fun e w' => e = .returned (.string (ctF cs)) ∧ Below w.heap.size w w' := by
  have HR := hide hr; have HTB := hide ht; have HZ := hide hz; clear hr ht hz
  cases hv : chgS cs
  · have hc : ctF cs = mkS [] := by unfold ctF; rw [hv]; rfl
    rw [hc]
    have HV := hide hv; clear hv hc
    go_enter Tryd.func35, Tryd.ntmps35
    go_wp2_with fail
    refine (c_areChanges _ cs _ HR.out).mono ?_; rintro e w1 ⟨rfl, hb1⟩; rw [HV.out]
    have HB := hide hb1; clear hb1
    go_wp2
    go_ret
    exact ⟨rfl, HB.out⟩
  · have hc : ctF cs = mkS (txtCs cs) := by unfold ctF; rw [hv]; rfl
    rw [hc]
    have HV := hide hv; clear hv hc
    go_enter Tryd.func35, Tryd.ntmps35
    go_wp2_with fail
    refine (c_areChanges _ cs _ HR.out).mono ?_; rintro e w1 ⟨rfl, hb1⟩; rw [HV.out]
    have HB := hide hb1; clear hb1
    go_wp2_with fail
    refine (c_changesText _ cs _ (HR.out.below HB.out) (HTB.out.below HB.out) HV.out HZ.out).mono ?_; rintro e w2 ⟨rfl, hb2⟩
    have HB2 := hide (bthen HB.out HB.out.size hb2); clear hb2
    go_wp2
    go_ret
    exact ⟨rfl, HB2.out⟩
set_option maxHeartbeats 2000000 in
set_option maxRecDepth 20000 in
theorem c_sCT (v : Value) (cs : List Chg) (w : World) (hr : RdC w v cs) (hz : ∀ c ∈ cs, c.t.size ≤ 1048576) :
    Calls Tryd.prog 34 #[v] w fun e w' => e = .returned (.string (ctF cs)) ∧ Below w.heap.size w w' := by
  have HR := hide hr
  have HZ9 : Sec (∀ c ∈ cs, c.t.size ≤ 9223372036854775807) := hide fun c hc => Nat.le_trans (hz c hc) (by omega)
  cases hv : chgS cs
  · have hc : ctF cs = mkS [] := by unfold ctF; rw [hv]; rfl
    rw [hc]
    have HV := hide hv; clear hv hc hr hz
    go_enter Tryd.func34, Tryd.ntmps34
    go_wp2_with fail
    refine (c_l32Ok _ cs _ HR.out HZ9.out).mono ?_; rintro e w1 ⟨rfl, hb1⟩; rw [HV.out]
    have HB := hide hb1; clear hb1
    go_wp2
    go_ret
    exact ⟨rfl, HB.out⟩
  · have hc : ctF cs = mkS (txtCs cs) := by unfold ctF; rw [hv]; rfl
    have hbd := chgS_bd hv
    have hcl := hbd.1
    have HBD := hide hbd.2; have HZ := hide hz; have HV := hide hv
    obtain ⟨A, cap, rfl, hl, hcc, hx⟩ := hr.openC
    have HX := hide hx; clear hx hr hbd hz hv
    generalize hTT : ctF cs = T at *
    have HTT := hide hc; clear hTT hc
    go_enter Tryd.func34, Tryd.ntmps34
    go_wp2_with fail
    refine (c_l32Ok _ cs _ HR.out HZ9.out).mono ?_; rintro e w1 ⟨rfl, hb1⟩; rw [HV.out]
    have hs1 := hb1.size
    have HB1 := hide hb1; clear hb1
    go_wp2_with fail
    go_loopw [3, 4] (fun o iv wr => ∃ (k : Nat) (X : List UInt8), k ≤ cs.length ∧ iv = .int .i64 (k : Int) ∧ X = txtCs (cs.take k) ∧ X.length ≤ k * 1048600 ∧ OwY 5 wr w1.heap.size o X ∧ Below w.heap.size w wr ∧ Below w1.heap.size w1 wr) (fun _ iv _ => cs.length - (intOf iv).toNat)
    case atStart => exact ⟨0, [], Nat.zero_le _, rfl, rfl, by simp, new_u8 w1, HB1.out.alloc hs1 _, (Below.refl _ _).alloc (Nat.le_refl _) _⟩
    case round =>
      obtain ⟨k, X, hk, rfl, hX, hXs, ho, hb, hbb⟩ := hrel
      have HX2 := hide hX; have HO := hide ho; have HB := hide hb; have HBB := hide hbb; have hsz := hbb.size; clear hX hb hbb
      have hXb : X.length ≤ 419440000 := by have : k * 1048600 ≤ 400 * 1048600 := Nat.mul_le_mul_right _ (by omega); omega
      by_cases hlt : k < cs.length
      · have hgc := List.getElem?_eq_getElem hlt
        obtain ⟨hkk, hp0, hp2⟩ := HBD.out k _ hgc
        have hcz := HZ.out cs[k] (List.getElem_mem hlt)
        obtain ⟨b, off, rfl, hbw, e0, e1, e2⟩ := HX.out k _ hgc
        have d0 := (HB.out.cell hbw).trans e0
        have d1 := (HB.out.cell hbw).trans e1
        have d2 := (HB.out.cell hbw).trans e2
        have hbr : b < wr.heap.size := Nat.lt_of_lt_of_le hbw HB.out.size
        clear e0 e1 e2 ho
        generalize hg : cs[k] = c at *
        have HG := hide hgc; clear hg hgc
        have htl : (mkS (txtC c)).size ≤ 1048600 := by
          rw [size_mkS]
          unfold txtC
          have h1 := length_decL (n := c.p) (by omega) (by omega)
          have h2 : c.t.data.toList.length = c.t.size := Array.length_toList
          simp only [List.length_append, List.length_cons, List.length_nil, h2]
          omega
        have HDK : Sec (∀ a : Unit, wr.cell? ⟨b, off + k * 3, none⟩ = some (.int .i64 c.k)) := hide (fun _ => d0)
        have HCL := hide (c_l32Change b (off + k * 3) c wr d0 d1 d2 hbr hkk hp0 hp2 hcz)
        clear d0 d1 d2
        generalize hY : mkS (txtC c) = Y at *
        have HY := hide hY; clear hY
        have hYl : X.length + Y.size ≤ 140737488355328 := by omega
        go_wp2_with (first | (go_at_call 78; refine (HCL.out).mono ?_; rintro e w3 ⟨rfl, hb3⟩; have HO3 := hide (show OwY 5 w3 w1.heap.size _ X from own_all HO.out hb3); have hs3 : w1.heap.size ≤ w3.heap.size := Nat.le_trans hsz hb3.size; have HB3 := hide (bthen HB.out HB.out.size hb3); have HBB3 := hide (bthen HBB.out hsz hb3); clear hb3) | (at_builtin; refine app_string rfl _ _ _ _ rfl w1.heap.size 5 (.int .u8 0) Tryd.underlying28 Tryd.underlying9 info_u8 rfl _ X rfl HO3.out _ rfl hYl hs3 ?_; intro v4 w4 ho4 hg4 hv4; have hb4 := below_own HB3.out HO3.out hg4 hs1 (Nat.le_trans hs1 hs3); have hb5 := below_own HBB3.out HO3.out hg4 (Nat.le_refl _) hs3; have HO4 := hide ho4; have HB4 := hide hb4; have HB5 := hide hb5; clear ho4 hb4 hb5 hg4 hv4))
        go_roundw
        case rel => exact ⟨k + 1, X ++ Y.data.toList, by omega, by go_num, by rw [HX2.out, ← HY.out, data_mkS, txtCs_take HG.out], by have : Y.data.toList.length = Y.size := Array.length_toList; rw [List.length_append, this]; omega, HO4.out, HB4.out, HB5.out⟩
        case measure => simp [intOf]; omega
      · have hc := str_of ho.rd
        have hXT : mkS X = T := by rw [HX2.out, List.take_of_length_le (by omega), HTT.out]
        have HXT := hide hXT; clear hXT ho
        go_wp2
        go_ret
        rw [HXT.out]
        exact ⟨rfl, HB.out⟩
theorem cs_CT (v : Value) (cs : List Chg) (p : ByteArray) (w : World) (hr : RdC w v cs) (hz : ∀ c ∈ cs, c.t.size ≤ 1048576) (hp : ctF cs = p) :
    Calls Tryd.prog 34 #[v] w fun e w' => e = .returned (.string p) ∧ Below w.heap.size w w' := by
  subst hp; exact c_sCT v cs w hr hz
theorem ci_CT (v : Value) (cs : List Chg) (p : ByteArray) (w : World) (hr : RdC w v cs) (ht : TB w) (hz : ∀ c ∈ cs, c.t.size ≤ 1048576) (hp : ctF cs = p) :
    Calls Tryd.prog 35 #[v] w fun e w' => e = .returned (.string p) ∧ Below w.heap.size w w' := by
  subst hp; exact c_iCT v cs w hr ht hz
set_option maxHeartbeats 1000000 in
set_option maxRecDepth 100000 in
theorem law_ChangesText (v : Value) (cs : List Chg) (w : World) (hr : RdC w v cs) (hsz : ∀ c ∈ cs, GoodC c) (ht : TB w) : Calls Tryd.prog 8 #[v] w fun e w' => e = .returned (.bool true) ∧ Below w.heap.size w w' := by
  have hroom : (if 1048576 < cs.length then (-1 : Int) else roomF (1048576 - cs.length) cs) < 0 ∨ (0 ≤ (if 1048576 < cs.length then (-1 : Int) else roomF (1048576 - cs.length) cs) ∧ cs.length ≤ 1048576 ∧ ∀ c ∈ cs, c.t.size ≤ 1048576) := by
    split
    · left; omega
    · next h =>
      rcases Int.lt_or_le (roomF (1048576 - cs.length) cs) 0 with h1 | h1
      · exact .inl h1
      · right
        refine ⟨h1, by omega, fun c hc => ?_⟩
        have := roomF_sizes cs _ (by omega) h1 c hc
        omega
  generalize hR : (if 1048576 < cs.length then (-1 : Int) else roomF (1048576 - cs.length) cs) = R at *
  generalize hp : ctF cs = p at *
  have HP := hide hp; have HRM := hide hR; have HR := hide hr; have HZ := hide hsz; have HTB := hide ht; clear hR hr hsz hp ht
  rcases hroom with hneg | ⟨hpos, hn, hz2⟩
  · go_enter Tryd.func8, Tryd.ntmps8
    go_wp2_with (go_at_call 25; refine (c_szChangeS _ cs _ HR.out HZ.out).mono ?_; rintro e w1 ⟨rfl, hb1⟩; rw [HRM.out])
    go_ret
    exact ⟨rfl, hb1⟩
  · have hnn : ¬ R < 0 := by omega
    have HZ2 := hide hz2; clear hz2
    go_enter Tryd.func8, Tryd.ntmps8
    go_wp2_with fail
    refine (c_szChangeS _ cs _ HR.out HZ.out).mono ?_; rintro e w1 ⟨rfl, hb⟩; rw [HRM.out]
    have hs1 := hb.size
    have HB1 := hide hb; clear hb
    go_wp2_with fail
    refine (c_toChangeS _ cs _ (HR.out.below HB1.out) hn).mono ?_; rintro e w2 ⟨va, rfl, oa, hb⟩
    have hs2 := hb.size
    have Fa2 := hide (FrG.born oa); clear oa
    have HB2 := hide (bthen HB1.out (by omega) hb); clear hb HB1
    go_wp2_with fail
    refine (cs_CT _ cs p _ Fa2.out.rd HZ2.out HP.out).mono ?_; rintro e w3 ⟨rfl, hb⟩
    have hs3 := hb.size
    have Fa3 := hide (Fa2.out.below hb (by omega)); clear Fa2
    have HB3 := hide (bthen HB2.out (by omega) hb); clear hb HB2
    go_wp2_with fail
    refine (c_toChangeS _ cs _ (HR.out.below HB3.out) hn).mono ?_; rintro e w4 ⟨vx, rfl, ox, hb⟩
    have hs4 := hb.size
    have Fa4 := hide (Fa3.out.below hb (by omega)); clear Fa3
    have Fx4 := hide (FrG.born ox); clear ox
    have HB4 := hide (bthen HB3.out (by omega) hb); clear hb HB3
    go_wp2_with fail
    refine (ci_CT _ cs p _ Fx4.out.rd (HTB.out.below HB4.out) HZ2.out HP.out).mono ?_; rintro e w5 ⟨rfl, hb⟩
    have hs5 := hb.size
    have Fa5 := hide (Fa4.out.below hb (by omega)); clear Fa4
    have Fx5 := hide (Fx4.out.below hb (by omega)); clear Fx4
    have HB5 := hide (bthen HB4.out (by omega) hb); clear hb HB4
    go_wp2_with fail
    refine (c_toChangeS _ cs _ (HR.out.below HB5.out) hn).mono ?_; rintro e w6 ⟨vt, rfl, ot, hb⟩
    have hs6 := hb.size
    have Fa6 := hide (Fa5.out.below hb (by omega)); clear Fa5
    have Fx6 := hide (Fx5.out.below hb (by omega)); clear Fx5
    have Ft6 := hide (FrG.born ot); clear ot
    have HB6 := hide (bthen HB5.out (by omega) hb); clear hb HB5
    go_wp2_with fail
    refine (c_eqCS _ _ cs _ Fx6.out.rd Ft6.out.rd).mono ?_; rintro e w7 ⟨rfl, hb⟩
    have hs7 := hb.size
    have Fa7 := hide (Fa6.out.below hb (by omega)); clear Fa6
    have Fx7 := hide (Fx6.out.below hb (by omega)); clear Fx6
    have Ft7 := hide (Ft6.out.below hb (by omega)); clear Ft6
    have HB7 := hide (bthen HB6.out (by omega) hb); clear hb HB6
    go_wp2
    go_ret
    exact ⟨rfl, HB7.out⟩
end Go.Proofs.YtjapidcbfnknkaaDoor
