/- Contracts: marks held in lists of changes; changes that lead back, by both sides. -/
import Derived.Test.YtjbcanihpcfncaaDoorUi
import Derived.Test.YtjbcanihpcfncaaDoorUe
namespace Go.Proofs.YtjbcanihpcfncaaDoor
open Go.RowKit
theorem str_selfC (s : ByteArray) : (s.toList == s.toList) = true := by simp
set_option maxHeartbeats 1000000 in
set_option maxRecDepth 20000 in
theorem c_heldCS (v : Value) (n m : Nat) (w : World) (hr : RdC w v (mrkCs m n)) (h0 : 0 < m) (hm : m + 3 * n ≤ 4611686018427387904) :
    Calls Tryd.prog 8 #[v, .int .i64 m] w fun e w' => e = .returned (.int .i64 ((m + 3 * n : Nat) : Int)) ∧ Below w.heap.size w w' := by
  obtain ⟨A, cap, rfl, hl, hc, hx⟩ := hr.openC
  have HX := hide hx; clear hx hr
  rw [length_mrkCs] at hl ⊢
  go_enter Tryd.func8, Tryd.ntmps8
  go_wp2
  go_loopw [1, 5] (fun t i wr => ∃ k j : Nat, k ≤ n ∧ i = .int .i64 k ∧ t = .int .i64 (j : Int) ∧ j = m + 3 * k ∧ Below w.heap.size w wr) (fun _ i _ => n - (intOf i).toNat)
  case atStart => exact ⟨0, m, Nat.zero_le _, rfl, rfl, rfl, Below.refl _ _⟩
  case round =>
    obtain ⟨k, j, hk, rfl, rfl, hj, hb⟩ := hrel
    have HB := hide hb; clear hb
    by_cases hlt : k < n
    · obtain ⟨b, off, rfl, hbw, e0, e1, e2⟩ := HX.out k _ (mrkCs_at hlt)
      rw [← hj] at e0 e1 e2
      have d0 : wr.cell? ⟨b, off + k * 3, none⟩ = some (.int .i64 (j : Int)) := (HB.out.cell hbw).trans e0
      have d1 : wr.cell? ⟨b, off + k * 3 + 1, none⟩ = some (.int .i64 ((j : Int) + 1)) := (HB.out.cell hbw).trans e1
      have d2 : wr.cell? ⟨b, off + k * 3 + 2, none⟩ = some (.string (mrkB (j + 2))) := (HB.out.cell hbw).trans e2
      have hbr : b < wr.heap.size := Nat.lt_of_lt_of_le hbw HB.out.size
      have hjb : j + 2 ≤ 4611686018427387904 := by omega
      have HJ := hide hj
      clear e0 e1 e2 hj
      go_wp2
      go_region_held3 (fun w' => w'.cell? ⟨b, off + k * 3 + 2, none⟩ = some (.string (mrkB (j + 2)))) (first | go_keep | (refine (hb3.cell ?_).trans ?_ <;> first | assumption | (simp [*]; done) | (simp; omega))) (first | (go_at_call 19; refine (c_markText (j + 2) _ (by omega) hjb).mono ?_; rintro e w3 ⟨rfl, hb3⟩))
      have hb4 : Below w.heap.size w w3 := bthen HB.out HB.out.size (by first | exact hb3 | exact undrew hb3 | exact undrewN hb3)
      have HB4 := hide hb4; clear hb4 hb3
      have hse := str_selfC (mrkB (j + 2))
      go_wp2
      go_roundw
      case rel => exact ⟨k + 1, j + 3, by omega, by go_num, by go_num, by rw [HJ.out]; omega, (by first | exact HB4.out | exact undrew HB4.out | exact Below.drew HB4.out | exact Below.drew (undrew HB4.out) | exact undrewN HB4.out | exact below_drewN HB4.out _)⟩
      case measure => simp [intOf]; omega
    · obtain rfl : k = n := by omega
      go_wp2
      go_ret
      exact ⟨by rw [hj]; rfl, HB.out⟩
theorem app1_chg {w : World} {ops : Array Oper} {rest : List Oper} {o : Oper} {a : Act} {Q : Exit → Act → World → Prop} {c : Chg} (hgd : o.guard = none) (s x : Operand)
    (ho : o.op = .call { callee := .builtin .append, args := #[s, x], argTypes := #[22, 22] }) {B : Nat} {v : Value} {xs : List Chg} (hs : a.eval s = v) (hown : OwC 35 w B v xs)
    (hx : a.eval x = .slice (some ⟨w.heap.size, 0, none⟩) 1 1) (hl : xs.length + 1 ≤ 4398046511104) (hB : B ≤ w.heap.size)
    (h : ∀ v' w', OwC 35 w' B v' (xs ++ [c]) → w.grownBy w' v.ownBlock → (∀ k, v'.ownBlock = some k → v.ownBlock = some k ∨ w.heap.size ≤ k) → wpList Tryd.prog ops Q rest (a.put o.dst v') w') :
    wpList Tryd.prog ops Q (o :: rest) a (w.alloc (.cells #[.int .i64 c.k, .int .i64 c.p, .string c.t] 35)) :=
  app_one hgd s x _ ho B _ _ 3 32 Tryd.underlying22 info_chg rfl (by omega) v xs.length _ hs hown.2 hx rfl (by simp [Value.oneCell']) (by omega) (by omega) hB
    fun v' w' h1 h2 h3 => h v' w' ⟨chgV_len, by have e : (xs ++ [c]).flatMap chgV = xs.flatMap chgV ++ [.int .i64 c.k, .int .i64 c.p, .string c.t] := by simp [chgV]
                                                rw [e, List.length_append]; exact h1⟩ h2 h3
theorem new_chg (w : World) : OwC 35 (w.alloc (.cells #[] 35)) w.heap.size (.slice (some ⟨w.heap.size, 0, none⟩) 0 0) [] := ⟨chgV_len, World.ownsRow_made w #[] 0 (Nat.le_refl _) (by decide) rfl⟩
def invF (cs : List Chg) : List Chg × Int := if chgS cs then (if chgS (invGo 0 cs) then (invGo 0 cs, 0) else ([], 2)) else ([], 1)
theorem invGo_len (cs : List Chg) : ∀ s, (invGo s cs).length = cs.length := by
  induction cs with
  | nil => intro s; rfl
  | cons c r ih => intro s; simp only [invGo]; split <;> simp [ih]
theorem invGo_good (cs : List Chg) : ∀ s, (∀ c ∈ cs, GoodC c) → ∀ c ∈ invGo s cs, GoodC c := by
  induction cs with
  | nil => intro s _ c hc; simp [invGo] at hc
  | cons d r ih =>
    intro s h c hc
    have hd := h d (by simp)
    simp only [invGo] at hc
    split at hc
    · rcases List.mem_cons.1 hc with rfl | hc
      · exact hd
      · exact ih _ (fun x hx => h x (by simp [hx])) c hc
    · rcases List.mem_cons.1 hc with rfl | hc
      · exact hd
      · exact ih _ (fun x hx => h x (by simp [hx])) c hc
theorem chgS_bd {cs : List Chg} (h : chgS cs = true) : cs.length ≤ 400 ∧ ∀ (k : Nat) (c : Chg), cs[k]? = some c → (c.k = 1 ∨ c.k = 2) ∧ 0 ≤ c.p ∧ c.p ≤ 200 := by
  simp only [chgS, Bool.and_eq_true, decide_eq_true_eq] at h
  refine ⟨h.1, fun k c hk => ?_⟩
  have hat := chgTo_true.1 h.2 k (List.getElem?_eq_some_iff.1 hk).1
  have hok : chgOk c = true := by
    cases hq : chgOk c
    · rw [chgAt_bad hk hq] at hat; cases hat
    · rfl
  have := chgOk_cases hok
  have h2 := inB_true.1 this.2.1
  exact ⟨this.1, h2.1, h2.2⟩
end Go.Proofs.YtjbcanihpcfncaaDoor
