/- Contracts: marks held in lists of changes; changes that lead back, by both sides. -/
import Derived.Test.YtjapidcbfnknkaaUi
import Derived.Test.YtjapidcbfnknkaaUe
namespace Go.Proofs.Ytjapidcbfnknkaa
open Go.RowKit
theorem str_selfC (s : ByteArray) : (s.toList == s.toList) = true := by simp
set_option maxHeartbeats 1000000 in
set_option maxRecDepth 20000 in
theorem c_heldCS (v : Value) (n m : Nat) (w : World) (hr : RdC w v (mrkCs m n)) (h0 : 0 < m) (hm : m + 3 * n ≤ 4611686018427387904) :
    Calls Try.prog 15 #[v, .int .i64 m] w fun e w' => e = .returned (.int .i64 ((m + 3 * n : Nat) : Int)) ∧ Below w.heap.size w w' := by
  obtain ⟨A, cap, rfl, hl, hc, hx⟩ := hr.openC
  have HX := hide hx; clear hx hr
  rw [length_mrkCs] at hl ⊢
  go_enter Try.func15, Try.ntmps15
  go_wp2
  go_loopw [1, 5] (fun t i wr => ∃ k j : Nat, k ≤ n ∧ i = .int .i64 k ∧ t = .int .i64 (j : Int) ∧ j = m + 3 * k ∧ Below w.heap.size w wr) (fun _ i _ => n - (intOf i).toNat)
  case atStart => exact ⟨0, m, Nat.zero_le _, rfl, rfl, rfl, Below.refl _ _⟩
  case round =>
    obtain ⟨k, j, hk, rfl, rfl, hj, hb⟩ := hrel
    have HB := hide hb; clear hb
    by_cases hlt : k < n
    · obtain ⟨b, off, rfl, hbw, e0, e1, e2⟩ := HX.out k _ (mrkCs_at hlt)
      rw [← hj] at e0 e1 e2
      have d0 : wr.cell? ⟨b, off + k * 3, none⟩ = some (.int .i64 (j : Int)) := (HB.out.cell hbw).trans e0
      have d1 : wr.cell? ⟨b, off + k * 3 + 1, none⟩ = some (.int .i64 ((j : Int) + 1)) := (HB.out.cell hbw).trans e1
      have d2 : wr.cell? ⟨b, off + k * 3 + 2, none⟩ = some (.string (mrkB (j + 2))) := (HB.out.cell hbw).trans e2
      have hbr : b < wr.heap.size := Nat.lt_of_lt_of_le hbw HB.out.size
      have hjb : j + 2 ≤ 4611686018427387904 := by omega
      have HJ := hide hj
      clear e0 e1 e2 hj
      go_wp2
      go_region_held3 (fun w' => w'.cell? ⟨b, off + k * 3 + 2, none⟩ = some (.string (mrkB (j + 2)))) (first | go_keep | (refine (hb3.cell ?_).trans ?_ <;> first | assumption | (simp [*]; done) | (simp; omega))) (first | (go_at_call 38; refine (c_markText (j + 2) _ (by omega) hjb).mono ?_; rintro e w3 ⟨rfl, hb3⟩))
      have hb4 : Below w.heap.size w w3 := bthen HB.out HB.out.size (by first | exact hb3 | exact undrew hb3 | exact undrewN hb3)
      have HB4 := hide hb4; clear hb4 hb3
      have hse := str_selfC (mrkB (j + 2))
      go_wp2
      go_roundw
      case rel => exact ⟨k + 1, j + 3, by omega, by go_num, by go_num, by rw [HJ.out]; omega, (by first | exact HB4.out | exact undrew HB4.out | exact Below.drew HB4.out | exact Below.drew (undrew HB4.out) | exact undrewN HB4.out | exact below_drewN HB4.out _)⟩
      case measure => simp [intOf]; omega
    · obtain rfl : k = n := by omega
      go_wp2
      go_ret
      exact ⟨by rw [hj]; rfl, HB.out⟩
theorem app1_chg {w : World} {ops : Array Oper} {rest : List Oper} {o : Oper} {a : Act} {Q : Exit → Act → World → Prop} {c : Chg} (hgd : o.guard = none) (s x : Operand)
    (ho : o.op = .call { callee := .builtin .append, args := #[s, x], argTypes := #[25, 25] }) {B : Nat} {v : Value} {xs : List Chg} (hs : a.eval s = v) (hown : OwC 55 w B v xs)
    (hx : a.eval x = .slice (some ⟨w.heap.size, 0, none⟩) 1 1) (hl : xs.length + 1 ≤ 4398046511104) (hB : B ≤ w.heap.size)
    (h : ∀ v' w', OwC 55 w' B v' (xs ++ [c]) → w.grownBy w' v.ownBlock → (∀ k, v'.ownBlock = some k → v.ownBlock = some k ∨ w.heap.size ≤ k) → wpList Try.prog ops Q rest (a.put o.dst v') w') :
    wpList Try.prog ops Q (o :: rest) a (w.alloc (.cells #[.int .i64 c.k, .int .i64 c.p, .string c.t] 55)) :=
  app_one hgd s x _ ho B _ _ 3 32 Try.underlying25 info_chg rfl (by omega) v xs.length _ hs hown.2 hx rfl (by simp [Value.oneCell']) (by omega) (by omega) hB
    fun v' w' h1 h2 h3 => h v' w' ⟨chgV_len, by have e : (xs ++ [c]).flatMap chgV = xs.flatMap chgV ++ [.int .i64 c.k, .int .i64 c.p, .string c.t] := by simp [chgV]
                                                rw [e, List.length_append]; exact h1⟩ h2 h3
theorem new_chg (w : World) : OwC 55 (w.alloc (.cells #[] 55)) w.heap.size (.slice (some ⟨w.heap.size, 0, none⟩) 0 0) [] := ⟨chgV_len, World.ownsRow_made w #[] 0 (Nat.le_refl _) (by decide) rfl⟩
def invF (cs : List Chg) : List Chg × Int := if chgS cs then (if chgS (invGo 0 cs) then (invGo 0 cs, 0) else ([], 2)) else ([], 1)
theorem invGo_len (cs : List Chg) : ∀ s, (invGo s cs).length = cs.length := by
  induction cs with
  | nil => intro s; rfl
  | cons c r ih => intro s; simp only [invGo]; split <;> simp [ih]
theorem invGo_good (cs : List Chg) : ∀ s, (∀ c ∈ cs, GoodC c) → ∀ c ∈ invGo s cs, GoodC c := by
  induction cs with
  | nil => intro s _ c hc; simp [invGo] at hc
  | cons d r ih =>
    intro s h c hc
    have hd := h d (by simp)
    simp only [invGo] at hc
    split at hc
    · rcases List.mem_cons.1 hc with rfl | hc
      · exact hd
      · exact ih _ (fun x hx => h x (by simp [hx])) c hc
    · rcases List.mem_cons.1 hc with rfl | hc
      · exact hd
      · exact ih _ (fun x hx => h x (by simp [hx])) c hc
theorem chgS_bd {cs : List Chg} (h : chgS cs = true) : cs.length ≤ 400 ∧ ∀ (k : Nat) (c : Chg), cs[k]? = some c → (c.k = 1 ∨ c.k = 2) ∧ 0 ≤ c.p ∧ c.p ≤ 200 := by
  simp only [chgS, Bool.and_eq_true, decide_eq_true_eq] at h
  refine ⟨h.1, fun k c hk => ?_⟩
  have hat := chgTo_true.1 h.2 k (List.getElem?_eq_some_iff.1 hk).1
  have hok : chgOk c = true := by
    cases hq : chgOk c
    · rw [chgAt_bad hk hq] at hat; cases hat
    · rfl
  have := chgOk_cases hok
  have h2 := inB_true.1 this.2.1
  exact ⟨this.1, h2.1, h2.2⟩
set_option maxHeartbeats 2000000 in
set_option maxRecDepth 20000 in
theorem c_iInvert (v : Value) (cs : List Chg) (w : World) (hr : RdC w v cs) : Calls Try.prog 13 #[v] w fun e w' => ∃ v', e = .returned (.tuple #[v', .int .i64 (invF cs).2]) ∧ OwC 55 w' w.heap.size v' (invF cs).1 ∧ Below w.heap.size w w' := by
  have HR := hide hr
  cases hv : chgS cs
  · have hf : invF cs = ([], 1) := by unfold invF; rw [hv]; rfl
    rw [hf]
    have HV := hide hv; clear hv hr hf
    go_enter Try.func13, Try.ntmps13
    go_wp2_with fail
    refine (c_areChanges _ cs _ HR.out).mono ?_; rintro e w1 ⟨rfl, hb1⟩; rw [HV.out]
    have HB := hide hb1; clear hb1
    go_wp2
    go_ret2
    exact ⟨_, rfl, OwG.nil_ chgV_len _ _ _, HB.out⟩
  · have hbd := chgS_bd hv
    have hcl := hbd.1
    have HBD := hide hbd.2
    have HIF := hide (show invF cs = if chgS (invGo 0 cs) then (invGo 0 cs, 0) else ([], 2) by unfold invF; rw [hv]; rfl)
    have HV := hide hv; clear hv hbd
    obtain ⟨A, cap, rfl, hl, hc, hx⟩ := hr.openC
    have HX := hide hx; clear hx hr
    go_enter Try.func13, Try.ntmps13
    go_wp2_with fail
    refine (c_areChanges _ cs _ HR.out).mono ?_; rintro e w1 ⟨rfl, hb1⟩; rw [HV.out]
    have hs1 := hb1.size
    have HB1 := hide hb1; clear hb1
    go_wp2_with fail
    go_loopw [4, 5, 15] (fun o sv iv wr => ∃ (k : Nat) (sh : Int) (out : List Chg), k ≤ cs.length ∧ iv = .int .i64 (k : Int) ∧ sv = .int .i64 sh ∧ -(k : Int) ≤ sh ∧ sh ≤ k ∧ out.length = k ∧ out ++ invGo sh (cs.drop k) = invGo 0 cs ∧ OwC 55 wr w1.heap.size o out ∧ Below w.heap.size w wr ∧ Below w1.heap.size w1 wr) (fun _ _ iv _ => cs.length - (intOf iv).toNat)
    case atStart => exact ⟨0, 0, [], Nat.zero_le _, rfl, rfl, by omega, by omega, rfl, by simp, new_chg w1, HB1.out.alloc hs1 _, (Below.refl _ _).alloc (Nat.le_refl _) _⟩
    case round =>
      obtain ⟨k, sh, out, hk, rfl, rfl, hs0, hsk, hol, hinv, ho, hb, hbb⟩ := hrel
      have HINV := hide hinv; have HO := hide ho; have HB := hide hb; have HBB := hide hbb; have hsz := hbb.size; clear hinv ho hb hbb
      by_cases hlt : k < cs.length
      · have hgc := List.getElem?_eq_getElem hlt
        obtain ⟨hkk, hp0, hp2⟩ := HBD.out k _ hgc
        obtain ⟨b, off, rfl, hbw, e0, e1, e2⟩ := HX.out k _ hgc
        have d0 := (HB.out.cell hbw).trans e0
        have d1 := (HB.out.cell hbw).trans e1
        have d2 := (HB.out.cell hbw).trans e2
        have hstep : invGo sh (cs.drop k) = if cs[k].k = 1 then ⟨2, cs[k].p + sh, cs[k].t⟩ :: invGo (sh - 1) (cs.drop (k + 1)) else ⟨1, cs[k].p + sh, cs[k].t⟩ :: invGo (sh + 1) (cs.drop (k + 1)) := by rw [List.drop_eq_getElem_cons hlt]; rfl
        have HST := hide hstep
        clear e0 e1 e2 hgc hstep
        generalize hg : cs[k] = c at *
        have HG := hide hg; clear hg
        have HOA := hide (fun q : Obj => HO.out.all ((Below.refl wr.heap.size wr).alloc (Nat.le_refl _) q))
        have hbA := hide (fun q : Obj => HB.out.alloc HB.out.size q)
        have hbbA := hide (fun q : Obj => HBB.out.alloc HBB.out.size q)
        rcases hkk with hkk | hkk
        · go_wp2_with (at_builtin; refine app1_chg (c := ⟨2, c.p + sh, c.t⟩) rfl _ _ rfl rfl (HOA.out _) (by show Value.slice (some ⟨wr.heap.size + 1, 0, none⟩) 1 1 = _; simp) (by omega) (by simp; omega) ?_; intro v1 w3 ho3 hg3 hv3; have hb3 := below_own (hbA.out _) (HOA.out _).2 hg3 hs1 (by have := (hbA.out (.cells #[] 0)).size; simp at *; omega); have hb4 := below_own (hbbA.out _) (HOA.out _).2 hg3 (Nat.le_refl _) (hbbA.out _).size; have HO3 := hide ho3; have HB3 := hide hb3; have HB4 := hide hb4; clear ho3 hb3 hb4 hg3 hv3)
          go_roundw
          case rel => exact ⟨k + 1, sh - 1, out ++ [⟨2, c.p + sh, c.t⟩], by omega, by go_num, by go_num, by omega, by omega, by simp [hol], by rw [← HINV.out, HST.out, if_pos hkk]; simp, HO3.out, HB3.out, HB4.out⟩
          case measure => simp [intOf]; omega
        · have hn1 : ¬ c.k = 1 := by omega
          go_wp2_with (at_builtin; refine app1_chg (c := ⟨1, c.p + sh, c.t⟩) rfl _ _ rfl rfl (HOA.out _) (by show Value.slice (some ⟨wr.heap.size + 1, 0, none⟩) 1 1 = _; simp) (by omega) (by simp; omega) ?_; intro v1 w3 ho3 hg3 hv3; have hb3 := below_own (hbA.out _) (HOA.out _).2 hg3 hs1 (by have := (hbA.out (.cells #[] 0)).size; simp at *; omega); have hb4 := below_own (hbbA.out _) (HOA.out _).2 hg3 (Nat.le_refl _) (hbbA.out _).size; have HO3 := hide ho3; have HB3 := hide hb3; have HB4 := hide hb4; clear ho3 hb3 hb4 hg3 hv3)
          go_roundw
          case rel => exact ⟨k + 1, sh + 1, out ++ [⟨1, c.p + sh, c.t⟩], by omega, by go_num, by go_num, by omega, by omega, by simp [hol], by rw [← HINV.out, HST.out, if_neg (by omega)]; simp, HO3.out, HB3.out, HB4.out⟩
          case measure => simp [intOf]; omega
      · have hall : out = invGo 0 cs := by have := HINV.out; rw [List.drop_eq_nil_of_le (by omega)] at this; simpa [invGo] using this
        have HALL := hide hall; clear hall
        cases hv2 : chgS (invGo 0 cs)
        all_goals
          have HV2 := hide hv2
          clear hv2
          go_wp2_with fail
          refine (c_areChanges _ out _ HO.out.rd).mono ?_; rintro e w5 ⟨rfl, hb5⟩; rw [HALL.out, HV2.out]
          have HO5 := hide (HO.out.all hb5); have HB5 := hide (bthen HB.out HB.out.size hb5); clear hb5
          go_wp2
          go_ret2
          rw [HIF.out, HV2.out]
        · exact ⟨_, rfl, OwG.nil_ chgV_len _ _ _, HB5.out⟩
        · exact ⟨_, rfl, by have := HO5.out; rw [HALL.out] at this; exact this.more hs1, HB5.out⟩
end Go.Proofs.Ytjapidcbfnknkaa
