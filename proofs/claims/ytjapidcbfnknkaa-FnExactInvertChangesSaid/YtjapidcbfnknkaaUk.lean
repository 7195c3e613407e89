/- Contract: changes that lead back, by the reference. -/
import Derived.Test.YtjapidcbfnknkaaUj
namespace Go.Proofs.Ytjapidcbfnknkaa
open Go.RowKit
set_option maxHeartbeats 2000000 in
set_option maxRecDepth 20000 in
theorem c_sInvert (v : Value) (cs : List Chg) (w : World) (hr : RdC w v cs) (hsz : ∀ c ∈ cs, GoodC c) : Calls Try.prog 12 #[v] w fun e w' => ∃ v', e = .returned (.tuple #[v', .int .i64 (invF cs).2]) ∧ OwC 55 w' w.heap.size v' (invF cs).1 ∧ Below w.heap.size w w' := by
  have HR := hide hr; have HZ := hide hsz; have HZ2 := hide (invGo_good cs 0 hsz); clear hsz
  cases hv : chgS cs
  · have hf : invF cs = ([], 1) := by unfold invF; rw [hv]; rfl
    rw [hf]
    have HV := hide hv; clear hv hr hf
    go_enter Try.func12, Try.ntmps12
    go_wp2_with fail
    refine (c_l32Ok _ cs _ HR.out HZ.out).mono ?_; rintro e w1 ⟨rfl, hb1⟩; rw [HV.out]
    have HB := hide hb1; clear hb1
    go_wp2
    go_ret2
    exact ⟨_, rfl, OwG.nil_ chgV_len _ _ _, HB.out⟩
  · have hbd := chgS_bd hv
    have hcl := hbd.1
    have HBD := hide hbd.2
    have HIF := hide (show invF cs = if chgS (invGo 0 cs) then (invGo 0 cs, 0) else ([], 2) by unfold invF; rw [hv]; rfl)
    have HV := hide hv; clear hv hbd
    obtain ⟨A, cap, rfl, hl, hc, hx⟩ := hr.openC
    have HX := hide hx; clear hx hr
    go_enter Try.func12, Try.ntmps12
    go_wp2_with fail
    refine (c_l32Ok _ cs _ HR.out HZ.out).mono ?_; rintro e w1 ⟨rfl, hb1⟩; rw [HV.out]
    have hs1 := hb1.size
    have HB1 := hide hb1; clear hb1
    go_wp2_with fail
    go_loopw [4, 5, 6] (fun o sv iv wr => ∃ (k : Nat) (sh : Int) (out : List Chg), k ≤ cs.length ∧ iv = .int .i64 (k : Int) ∧ sv = .int .i64 sh ∧ -(k : Int) ≤ sh ∧ sh ≤ k ∧ out.length = k ∧ out ++ invGo sh (cs.drop k) = invGo 0 cs ∧ OwC 55 wr w1.heap.size o out ∧ Below w.heap.size w wr ∧ Below w1.heap.size w1 wr) (fun _ _ iv _ => cs.length - (intOf iv).toNat)
    case atStart => exact ⟨0, 0, [], Nat.zero_le _, rfl, rfl, by omega, by omega, rfl, by simp, new_chg w1, HB1.out.alloc hs1 _, (Below.refl _ _).alloc (Nat.le_refl _) _⟩
    case round =>
      obtain ⟨k, sh, out, hk, rfl, rfl, hs0, hsk, hol, hinv, ho, hb, hbb⟩ := hrel
      have HINV := hide hinv; have HO := hide ho; have HB := hide hb; have HBB := hide hbb; have hsz := hbb.size; clear hinv ho hb hbb
      by_cases hlt : k < cs.length
      · have hgc := List.getElem?_eq_getElem hlt
        obtain ⟨hkk, hp0, hp2⟩ := HBD.out k _ hgc
        obtain ⟨b, off, rfl, hbw, e0, e1, e2⟩ := HX.out k _ hgc
        have d0 := (HB.out.cell hbw).trans e0
        have d1 := (HB.out.cell hbw).trans e1
        have d2 := (HB.out.cell hbw).trans e2
        have hstep : invGo sh (cs.drop k) = if cs[k].k = 1 then ⟨2, cs[k].p + sh, cs[k].t⟩ :: invGo (sh - 1) (cs.drop (k + 1)) else ⟨1, cs[k].p + sh, cs[k].t⟩ :: invGo (sh + 1) (cs.drop (k + 1)) := by rw [List.drop_eq_getElem_cons hlt]; rfl
        have HST := hide hstep
        clear e0 e1 e2 hgc hstep
        generalize hg : cs[k] = c at *
        have HG := hide hg; clear hg
        rcases hkk with hkk | hkk
        · go_wp2_with (at_builtin; refine app1_chg (c := ⟨2, c.p + sh, c.t⟩) rfl _ _ rfl rfl (HO.out.all (by repeat (first | exact Below.refl _ _ | assumption | refine Below.drew ?_ | refine below_drewN ?_ _ | refine Below.alloc ?_ (by simp <;> omega) _ | refine Below.setCell ?_ (by simp <;> omega) _))) (by show Value.slice (some ⟨wr.heap.size + 1 + 1, 0, none⟩) 1 1 = _; simp [World.setCell]) (by omega) (by first | (simp [World.setCell]; omega) | (simp; omega)) ?_; intro v1 w3 ho3 hg3 hv3; have hb3 := below_own (bthen HB.out HB.out.size (by repeat (first | exact Below.refl _ _ | assumption | refine Below.drew ?_ | refine below_drewN ?_ _ | refine Below.alloc ?_ (by simp <;> omega) _ | refine Below.setCell ?_ (by simp <;> omega) _))) (HO.out.all (by repeat (first | exact Below.refl _ _ | assumption | refine Below.drew ?_ | refine below_drewN ?_ _ | refine Below.alloc ?_ (by simp <;> omega) _ | refine Below.setCell ?_ (by simp <;> omega) _))).2 hg3 hs1 (by have := HB.out.size; first | (simp [World.setCell]; omega) | (simp; omega)); have hb4 := below_own (bthen HBB.out HBB.out.size (by repeat (first | exact Below.refl _ _ | assumption | refine Below.drew ?_ | refine below_drewN ?_ _ | refine Below.alloc ?_ (by simp <;> omega) _ | refine Below.setCell ?_ (by simp <;> omega) _))) (HO.out.all (by repeat (first | exact Below.refl _ _ | assumption | refine Below.drew ?_ | refine below_drewN ?_ _ | refine Below.alloc ?_ (by simp <;> omega) _ | refine Below.setCell ?_ (by simp <;> omega) _))).2 hg3 (Nat.le_refl _) (by first | (simp [World.setCell]; omega) | (simp; omega)); have HO3 := hide ho3; have HB3 := hide hb3; have HB4 := hide hb4; clear ho3 hb3 hb4 hg3 hv3)
          go_roundw
          case rel => exact ⟨k + 1, sh - 1, out ++ [⟨2, c.p + sh, c.t⟩], by omega, by go_num, by go_num, by omega, by omega, by simp [hol], by rw [← HINV.out, HST.out, if_pos hkk]; simp, HO3.out, HB3.out, HB4.out⟩
          case measure => simp [intOf]; omega
        · go_wp2_with (at_builtin; refine app1_chg (c := ⟨1, c.p + sh, c.t⟩) rfl _ _ rfl rfl (HO.out.all (by repeat (first | exact Below.refl _ _ | assumption | refine Below.drew ?_ | refine below_drewN ?_ _ | refine Below.alloc ?_ (by simp <;> omega) _ | refine Below.setCell ?_ (by simp <;> omega) _))) (by show Value.slice (some ⟨wr.heap.size + 1 + 1, 0, none⟩) 1 1 = _; simp [World.setCell]) (by omega) (by first | (simp [World.setCell]; omega) | (simp; omega)) ?_; intro v1 w3 ho3 hg3 hv3; have hb3 := below_own (bthen HB.out HB.out.size (by repeat (first | exact Below.refl _ _ | assumption | refine Below.drew ?_ | refine below_drewN ?_ _ | refine Below.alloc ?_ (by simp <;> omega) _ | refine Below.setCell ?_ (by simp <;> omega) _))) (HO.out.all (by repeat (first | exact Below.refl _ _ | assumption | refine Below.drew ?_ | refine below_drewN ?_ _ | refine Below.alloc ?_ (by simp <;> omega) _ | refine Below.setCell ?_ (by simp <;> omega) _))).2 hg3 hs1 (by have := HB.out.size; first | (simp [World.setCell]; omega) | (simp; omega)); have hb4 := below_own (bthen HBB.out HBB.out.size (by repeat (first | exact Below.refl _ _ | assumption | refine Below.drew ?_ | refine below_drewN ?_ _ | refine Below.alloc ?_ (by simp <;> omega) _ | refine Below.setCell ?_ (by simp <;> omega) _))) (HO.out.all (by repeat (first | exact Below.refl _ _ | assumption | refine Below.drew ?_ | refine below_drewN ?_ _ | refine Below.alloc ?_ (by simp <;> omega) _ | refine Below.setCell ?_ (by simp <;> omega) _))).2 hg3 (Nat.le_refl _) (by first | (simp [World.setCell]; omega) | (simp; omega)); have HO3 := hide ho3; have HB3 := hide hb3; have HB4 := hide hb4; clear ho3 hb3 hb4 hg3 hv3)
          go_roundw
          case rel => exact ⟨k + 1, sh + 1, out ++ [⟨1, c.p + sh, c.t⟩], by omega, by go_num, by go_num, by omega, by omega, by simp [hol], by rw [← HINV.out, HST.out, if_neg (by omega)]; simp, HO3.out, HB3.out, HB4.out⟩
          case measure => simp [intOf]; omega
      · have hall : out = invGo 0 cs := by have := HINV.out; rw [List.drop_eq_nil_of_le (by omega)] at this; simpa [invGo] using this
        have HALL := hide hall; clear hall
        cases hv2 : chgS (invGo 0 cs)
        all_goals
          have HV2 := hide hv2
          clear hv2
          go_wp2_with fail
          refine (c_l32Ok _ out _ HO.out.rd (by rw [HALL.out]; exact HZ2.out)).mono ?_; rintro e w5 ⟨rfl, hb5⟩; rw [HALL.out, HV2.out]
          have HO5 := hide (HO.out.all hb5); have HB5 := hide (bthen HB.out HB.out.size hb5); clear hb5
          go_wp2
          go_ret2
          rw [HIF.out, HV2.out]
        · exact ⟨_, rfl, OwG.nil_ chgV_len _ _ _, HB5.out⟩
        · exact ⟨_, rfl, by have := HO5.out; rw [HALL.out] at this; exact this.more hs1, HB5.out⟩
end Go.Proofs.Ytjapidcbfnknkaa
